/- Functions of the program and of the reference as plain Lean functions, that the machine's calls answer as they do, and laws of these. Written in part by a program of this session, out of the translation. Condition: each theorem's own. -/
import Derived.Test.YthflimnpiglgbaaGreatDoorPf1
import Derived.Test.YthflimnpiglgbaaGreatDoorPf2
section
namespace Go.Proofs.YthflimnpiglgbaaGreatDoor.A
open Go.RowKit Go.Proofs.YthflimnpiglgbaaGreatDoorW.PrintWords Go.Proofs.YthflimnpiglgbaaGreatDoorW.PrintLast Go.Proofs.YthflimnpiglgbaaGreatDoorW.PrintMore
attribute [local go_sem] max2_int min2_int max_two min_two max_three min_three max_four min_four   -- for this text's walks alone
set_option linter.unusedVariables false
set_option linter.unusedSimpArgs false

def spec_l4Add.f (k : Nat) (a0_0 : Int) (l0_1 : List (S36)) (a1_0 : ByteArray) (a1_1 : ByteArray) : Option (Int × (List (S36))):=(some (([(⟨a1_0,a1_1⟩ : S36)] : List (S36)) : List (S36))).bind fun y203 => (if y203.length + l0_1.length < 4398046511104 then ((spec_l4Fit.f k a0_0 (y203 ++ l0_1)).bind fun bt209 => (some (bt209.1,bt209.2))) else (none))
theorem spec_l4Add.mono : ∀ a0 a1 a2 a3 k,LeO (spec_l4Add.f k a0 a1 a2 a3) (spec_l4Add.f (k + 1) a0 a1 a2 a3):=by
 intro a0 a1 a2 a3 k
 unfold spec_l4Add.f
 repeat' first
  | (with_reducible exact spec_l4Fit.mono _ _ _)
  | (with_reducible exact LeO.refl _)
  | (with_reducible exact LeO.none _)
  | (with_reducible refine LeO.ite ?_ ?_)
  | (with_reducible refine LeO.bind ?_ (fun _ => ?_))
  | exact spec_l4Fit.mono _ _ _
  | exact LeO.none _
  | refine LeO.ite ?_ ?_
  | refine LeO.bind ?_ (fun _ => ?_)
def spec_l4Add.T1 : Bool × List (List Nat × List Nat):=(true,[([],[]),([0],[0]),([],[]),([2],[2]),([],[]),([4],[4]),([3,5],[3,5]),([1,6],[1,6]),([7,6],[7]),([8,8,0,1,2,3,4,5,6,7,8],[8])])
def spec_l4Add.B1 : List Nat:=[0,1,0,4,0,16,60,127,255,511]
theorem spec_l4Add.tab1 : rtab .any (opsOf Tryz.f30 1) = spec_l4Add.T1:=by kernel_rfl
theorem spec_l4Add.bits1 : waitsOk spec_l4Add.T1.2 spec_l4Add.B1 = true:=by kernel_rfl
set_option maxHeartbeats 8000000 in
set_option maxRecDepth 100000 in
theorem spec_l4Add.calls (k : Nat) (a0_0 : Int) (A0_1 : Option Addr) (c0_1 : Nat) (l0_1 : List (S36)) (a1_0 : ByteArray) (a1_1 : ByteArray) (r1 : Int) (r2 : List (S36)) (w : World) (hr0_1 : Kd.C k36 w A0_1 l0_1.length l0_1) (hc0_1 : l0_1.length ≤ c0_1) (h : spec_l4Add.f k a0_0 l0_1 a1_0 a1_1 = some (r1,r2)) :
 Calls Tryz.prog 30 #[.agg #[.int .i64 a0_0,.slice A0_1 l0_1.length c0_1],.agg #[.string a1_0,.string a1_1]] w fun e w' => ∃ v1_ : Value,e = .returned (.agg #[.int .i64 r1,v1_]) ∧ Kd.R k36 36 w' w.heap.size (fun _ => True) v1_ r2 ∧ Below w.heap.size w w':=by
 have hu32:=Tryz.underlying32
 have hu36:=Tryz.underlying36
 have HR0_1:=zm0_ hr0_1
 have HC0_1:=zm0_ hc0_1
 clear hr0_1 hc0_1
 have HB:=zm0_ (Below.refl w.heap.size w)
 have H : ((some (([(⟨a1_0,a1_1⟩ : S36)] : List (S36)) : List (S36))).bind fun y203 => (if y203.length + l0_1.length < 4398046511104 then ((spec_l4Fit.f k a0_0 (y203 ++ l0_1)).bind fun bt209 => (some (bt209.1,bt209.2))) else (none))) = some (r1,r2):=h
 clear h
 obtain ⟨y203,hy203⟩ : ∃ y_ : List (S36),y_ = (([(⟨a1_0,a1_1⟩ : S36)] : List (S36))):=⟨_,rfl⟩
 replace H : (if y203.length + l0_1.length < 4398046511104 then ((spec_l4Fit.f k a0_0 (y203 ++ l0_1)).bind fun bt209 => (some (bt209.1,bt209.2))) else (none)) = some (r1,r2):=by first|(rw [hy203];with_reducible exact H)|(have H2_:=(Option.bind_some _ _).symm.trans H;rw [hy203];with_reducible exact H2_)|(have H2_:=(Option.bind_some _ _).symm.trans H;with_reducible exact H2_)|with_reducible exact H|(rw [hy203];exact H)|exact H
 have Ny203:=zm0_ hy203
 clear hy203
 by_cases c3 : y203.length + l0_1.length < 4398046511104
 ·
  rw [if_pos c3] at H
  have LMc3:=zm0_ c3
  clear c3
  obtain ⟨y206,hy206⟩ : ∃ y_ : List (S36),y_ = (y203 ++ l0_1):=⟨_,rfl⟩
  replace H : ((spec_l4Fit.f k a0_0 y206).bind fun bt209 => (some (bt209.1,bt209.2))) = some (r1,r2):=by first|(rw [hy206];with_reducible exact H)|(have H2_:=(Option.bind_some _ _).symm.trans H;rw [hy206];with_reducible exact H2_)|(have H2_:=(Option.bind_some _ _).symm.trans H;with_reducible exact H2_)|with_reducible exact H|(rw [hy206];exact H)|exact H
  have Ny206:=zm0_ hy206
  clear hy206
  replace H:=zq1_ H
  obtain ⟨⟨t209,t210⟩,A40,H⟩:=H
  replace H : (some (t209,t210)) = some (r1,r2):=H
  have A4:=zm0_ A40
  clear A40
  simp only [Option.some.injEq,Prod.mk.injEq] at H
  obtain ⟨rfl,rfl⟩:=H
  go_enter Tryz.func30,Tryz.ntmps30
  try go_wp2_with (first|((with_reducible refine gate_dst (N:=2) rfl ?_);refine box_event ?hg (N:=2) ?hd (cs:=#[.int .i64 a0_0,.slice A0_1 l0_1.length c0_1]) (t:=32) ?hr ?_;(case hd => rfl);(case hg => rfl);(case hr => first|(go_simp;done)|(go_simp;rfl));intro gb200 hg w5 hbox hb;have BK200:=zm0_ (hbox);have GW200:=zm0_ ((by rw [hg];exact (zn9_ (zl HB)) : w.heap.size ≤ gb200));have GE200:=zm0_ ((by rw [hg];exact (zn9_ (zl HB)) : w.heap.size ≤ gb200));replace HB:=zm0_ (zn8_ (zl HB) hb);clear hb hbox hg)|((with_reducible refine gate_dst (N:=3) rfl ?_);refine box_event ?hg (N:=3) ?hd (cs:=#[.string a1_0,.string a1_1]) (t:=36) ?hr ?_;(case hd => rfl);(case hg => rfl);(case hr => first|(go_simp;done)|(go_simp;rfl));intro gb201 hg w6 hbox hb;have BK201:=zm0_ (hbox);have GW201:=zm0_ ((by rw [hg];exact (zn9_ (zl1 HB GE200)) : w.heap.size ≤ gb201));have GE201:=zm0_ ((by rw [hg];exact (zn9_ (zl1 HB GE200)) : w.heap.size ≤ gb201));replace HB:=zm0_ (zn8_ (zl1 HB GE200) hb);have NB200_201:=zm0_ ((by rw [hg];exact Nat.ne_of_lt (zo3_ (g:=gb200) (o:=.cells #[.int .i64 a0_0,.slice A0_1 l0_1.length c0_1] 32 (0,0)) (zb BK200)) : gb200 ≠ gb201));have NB201_200:=zm0_ ((by rw [hg];exact Nat.ne_of_gt (zo3_ (g:=gb200) (o:=.cells #[.int .i64 a0_0,.slice A0_1 l0_1.length c0_1] 32 (0,0)) (zb BK200)) : gb201 ≠ gb200));replace BK200:=zm0_ (zm5_ (zb BK200) hb);clear hb hbox hg)|((with_reducible refine gate_dst (N:=4) rfl ?_);refine box_event ?hg (N:=4) ?hd (cs:=#[.int .i64 0,.slice none 0 0]) (t:=32) ?hr ?_;(case hd => rfl);(case hg => rfl);(case hr => first|(go_simp;done)|(go_simp;rfl));intro gb202 hg w7 hbox hb;have BK202:=zm0_ (hbox);have GW202:=zm0_ ((by rw [hg];exact (zn9_ (zl2 HB GE200 GE201)) : w.heap.size ≤ gb202));have GE202:=zm0_ ((by rw [hg];exact (zn9_ (zl2 HB GE200 GE201)) : w.heap.size ≤ gb202));replace HB:=zm0_ (zn8_ (zl2 HB GE200 GE201) hb);have NB200_202:=zm0_ ((by rw [hg];exact Nat.ne_of_lt (zo3_ (g:=gb200) (o:=.cells #[.int .i64 a0_0,.slice A0_1 l0_1.length c0_1] 32 (0,0)) (zb BK200)) : gb200 ≠ gb202));have NB202_200:=zm0_ ((by rw [hg];exact Nat.ne_of_gt (zo3_ (g:=gb200) (o:=.cells #[.int .i64 a0_0,.slice A0_1 l0_1.length c0_1] 32 (0,0)) (zb BK200)) : gb202 ≠ gb200));replace BK200:=zm0_ (zm5_ (zb BK200) hb);have NB201_202:=zm0_ ((by rw [hg];exact Nat.ne_of_lt (zo3_ (g:=gb201) (o:=.cells #[.string a1_0,.string a1_1] 36 (0,0)) (zb BK201)) : gb201 ≠ gb202));have NB202_201:=zm0_ ((by rw [hg];exact Nat.ne_of_gt (zo3_ (g:=gb201) (o:=.cells #[.string a1_0,.string a1_1] 36 (0,0)) (zb BK201)) : gb202 ≠ gb201));replace BK201:=zm0_ (zm5_ (zb BK201) hb);clear hb hbox hg))
  replace BK200:=zm0_ (k7_ BK200.out)
  replace BK201:=zm0_ (k7_ BK201.out)
  replace BK202:=zm0_ (k7_ BK202.out)
  replace HB:=zm0_ (zm4_ HB.out)
  refine start_ (n:=10) (S:=fun w' => w'.cell? ⟨gb200,0,none⟩ = some (.int .i64 a0_0) ∧ w'.cell? ⟨gb200,1,none⟩ = some (.slice A0_1 l0_1.length c0_1) ∧ w'.cell? ⟨gb201,0,none⟩ = some (.string a1_0) ∧ w'.cell? ⟨gb201,1,none⟩ = some (.string a1_1)) (ds:=[]) #[Z,Z,Z,Z,Z,Z,Z,Z,Z,Z] (by kernel_rfl) rfl rfl ⟨(zm6_ BK200.out 0).trans rfl,(zm6_ BK200.out 1).trans rfl,(zm6_ BK201.out 0).trans rfl,(zm6_ BK201.out 1).trans rfl⟩ (fun hHeld => ?_);refine with_tabW spec_l4Add.tab1 spec_l4Add.bits1 (fun HT_ HW_ => ?_)
  generalize w7.drew = w8 at BK200 BK201 BK202 HB hHeld ⊢
  refine pure_ (i:=0) (N:=some 5) (v:=?_) (a':=?_) #[Y,Z,Z,Z,Z,Z,Z,Z,Z,Z] rfl rfl (any_of HT_.out (by kernel_rfl)) (fun _ _ _ h => h) (Or.inl ⟨by rfl,?_⟩) ?_ ?_
  rotate_left
  ·
   intro w'
   go_simp
   with_reducible rfl
  rotate_left
  ·
   simp only [Act.put,lA_,lB_,lC_,i64_w,i32_w]
   rfl
  refine pure_ (i:=4) (N:=some 9) (v:=?_) (a':=?_) #[Y,Z,Z,Z,Y,Z,Z,Z,Z,Z] rfl rfl (any_of HT_.out (by kernel_rfl)) (fun _ _ _ h => h) (Or.inl ⟨by rfl,?_⟩) ?_ ?_
  rotate_left
  ·
   intro w'
   go_simp
   with_reducible rfl
  rotate_left
  ·
   simp only [Act.put,lA_,lB_,lC_,i64_w,i32_w]
   rfl
  refine take_ (i:=1) (N:=some 6) (v:=?_) (a':=?_) #[Y,Y,Z,Z,Y,Z,Z,Z,Z,Z] rfl rfl (take_ofW HT_.out HW_.out (by kernel_rfl)) (fun _ _ _ h => h) (Or.inl ⟨by rfl,?_⟩) hHeld ?_ ?_
  rotate_left
  ·
   rintro w' ⟨s0,s1,s2,s3⟩
   go_simp
   with_reducible rfl
  rotate_left
  ·
   simp only [Act.put,lA_,lB_,lC_,i64_w,i32_w]
   rfl
  refine take_ (i:=2) (N:=some 7) (v:=?_) (a':=?_) #[Y,Y,Y,Z,Y,Z,Z,Z,Z,Z] rfl rfl (take_ofW HT_.out HW_.out (by kernel_rfl)) (fun _ _ _ h => h) (Or.inl ⟨by rfl,?_⟩) hHeld ?_ ?_
  rotate_left
  ·
   rintro w' ⟨s0,s1,s2,s3⟩
   go_simp
   with_reducible rfl
  rotate_left
  ·
   simp only [Act.put,lA_,lB_,lC_,i64_w,i32_w]
   rfl
  refine take_ (i:=5) (N:=some 10) (v:=?_) (a':=?_) #[Y,Y,Y,Z,Y,Y,Z,Z,Z,Z] rfl rfl (take_ofW HT_.out HW_.out (by kernel_rfl)) (fun _ _ _ h => h) (Or.inl ⟨by rfl,?_⟩) hHeld ?_ ?_
  rotate_left
  ·
   rintro w' ⟨s0,s1,s2,s3⟩
   go_simp
   with_reducible rfl
  rotate_left
  ·
   simp only [Act.put,lA_,lB_,lC_,i64_w,i32_w]
   rfl
  refine one_ (i:=3) (N:=some 8) #[Y,Y,Y,Y,Y,Y,Z,Z,Z,Z] rfl rfl (one_of HT_.out (by kernel_rfl)) (by decide) (fun K hK => ?_)
  refine Kd.R_lit_step k36 _ 36 ?hg (N:=8) ?hd (xs:=([(⟨a1_0,a1_1⟩ : S36)] : List (S36))) (inner:=[.string a1_0,.string a1_1]) (ok:=fun _ => True) (okp:=fun _ => True) ?hr ?hp (fun _ hk => hk) trivial (Below.refl _ _) (Nat.le_refl _) (by simp) ?_;(case hd => rfl);(case hg => rfl);(case hr => first|(go_simp;done)|(go_simp;rfl));(case hp => exact (Reps.c2 (show Kd.M k36 _ _ _ (⟨a1_0,a1_1⟩ : S36) [.string a1_0,.string a1_1] from (k36_mkM _ _ _ (⟨a1_0,a1_1⟩ : S36) )) (Reps.none _ _)))
  intro v204 w9 ho10 hb hg_ hnew_
  clear hg_ hnew_
  (first|rw [← Ny203.out] at ho10|(simp only [Int.reduceToNat] at ho10;rw [← Ny203.out] at ho10))
  have HO205:=zm0_ (zo1_ (Kd.R_newB ho10 (g:=gb201) (o:=.cells #[.string a1_0,.string a1_1] 36 (0,0)) (zb BK201)) (zn9_ (zl3 HB GE200 GE201 GE202)))
  replace BK200:=zm0_ (zm5_ (zb BK200) hb)
  replace BK201:=zm0_ (zm5_ (zb BK201) hb)
  replace BK202:=zm0_ (zm5_ (zb BK202) hb)
  replace HB:=zm0_ (zn8_ (zl3 HB GE200 GE201 GE202) hb)
  clear hb ho10
  refine hK.out _ _ ⟨(zm6_ BK200.out 0).trans rfl,(zm6_ BK200.out 1).trans rfl,(zm6_ BK201.out 0).trans rfl,(zm6_ BK201.out 1).trans rfl⟩ (fun hHeld => ?_)
  clear hK K
  refine norm_ (a':=?_) ?_ ?_
  rotate_left
  ·
   show Act.put _ (some 8) _ = _
   simp only [Act.put,lA_,lB_,lC_,i64_w,i32_w]
   rfl
  refine one_ (i:=6) (N:=some 11) #[Y,Y,Y,Y,Y,Y,Y,Z,Z,Z] rfl rfl (one_of HT_.out (by kernel_rfl)) (by decide) (fun K hK => ?_)
  refine Kd.R_append_rows_step k36 (w0:=w) w.heap.size (by rfl) (.tmp 8) (.tmp 10) 30 36 (.agg #[(.string ⟨#[]⟩),(.string ⟨#[]⟩)]) 32 rfl Tryz.underlying30 info36 rfl (by decide) (by omega) v204 y203 l0_1 _ _ _ (fun k_ => k_ ≠ gb201) (fun _ => False) rfl rfl ?aO ?aR (fun _ _ h => h) (fun _ h => h.elim) ?aF ?aB ?aS ?aL ?_
  (case aR => repeat (first|exact (Kd.C_below HR0_1.out HB.out)|(with_reducible refine Kd.C_alloc ?_ _)|(with_reducible refine Kd.C_drewN ?_ _)|(with_reducible refine Kd.C_drew ?_)))
  (case aB => exact (zl3 HB GE200 GE201 GE202))
  (case aF => exact (fun k_ hk => Kd.freshB (g:=gb201) (o:=.cells #[.string a1_0,.string a1_1] 36 (0,0)) (zb BK201) k_ hk))
  (case aO => exact (zs (zo2_ HO205.out (fun _ hk => (by first|exact hk.2|(have hq_:=hk;simp only [ne_eq] at hq_ ⊢;simp only [hq_,not_false_eq_true,and_self]))))))
  (case aS => exact (zn9_ (zl3 HB GE200 GE201 GE202)))
  (case aL => have:=LMc3.out;omega)
  intro v207 w11 ho hb hg hat
  (first|(with_reducible rw [← Ny206.out] at ho)|(simp only [Int.reduceToNat] at ho;with_reducible rw [← Ny206.out] at ho)|rw [← Ny206.out] at ho)
  replace BK200:=zm0_ (blk_grown (g:=gb200) (o:=.cells #[.int .i64 a0_0,.slice A0_1 l0_1.length c0_1] 32 (0,0)) (zb BK200) hg (Kd.R_ne HO205.out BK200.out (by decide)))
  replace BK201:=zm0_ (blk_grown (g:=gb201) (o:=.cells #[.string a1_0,.string a1_1] 36 (0,0)) (zb BK201) hg (Kd.R_away HO205.out (fun _ hk => (by first|exact hk.2|(have hq_:=hk;simp only [ne_eq] at hq_ ⊢;simp only [hq_,not_false_eq_true,and_self])))))
  replace BK202:=zm0_ (blk_grown (g:=gb202) (o:=.cells #[.int .i64 0,.slice none 0 0] 32 (0,0)) (zb BK202) hg (Kd.R_ne HO205.out BK202.out (by decide)))
  replace HB:=zm0_ (hb)
  have HO208:=zm0_ (ho)
  clear HO205 ho hb hg hat
  obtain ⟨Ao12,co12,eo12⟩:=Kd.R_slice HO208.out
  (first|subst eo12|(injection eo12 with f1_ f2_ f3_;have f4_:=f1_.symm;have f5_:=f3_.symm;clear f1_ f2_ f3_;subst f4_;subst f5_))
  refine hK.out _ _ ⟨(zm6_ BK200.out 0).trans rfl,(zm6_ BK200.out 1).trans rfl,(zm6_ BK201.out 0).trans rfl,(zm6_ BK201.out 1).trans rfl⟩ (fun hHeld => ?_)
  clear hK K
  refine norm_ (a':=?_) ?_ ?_
  rotate_left
  ·
   show Act.put _ (some 11) _ = _
   simp only [Act.put,lA_,lB_,lC_,i64_w,i32_w]
   rfl
  refine pure_ (i:=7) (N:=some 12) (v:=?_) (a':=?_) #[Y,Y,Y,Y,Y,Y,Y,Y,Z,Z] rfl rfl (any_of HT_.out (by kernel_rfl)) (fun _ _ _ h => h) (Or.inl ⟨by rfl,?_⟩) ?_ ?_
  rotate_left
  ·
   intro w'
   go_simp
   with_reducible rfl
  rotate_left
  ·
   simp only [Act.put,lA_,lB_,lC_,i64_w,i32_w]
   rfl
  refine one_ (i:=8) (N:=some 13) #[Y,Y,Y,Y,Y,Y,Y,Y,Y,Z] rfl rfl (one_of HT_.out (by kernel_rfl)) (by decide) (fun K hK => ?_)
  refine goes_ Tryz.func41 (by kernel_rfl) rfl #[.agg #[.int .i64 a0_0,.slice Ao12 y206.length co12]] (by rfl) rfl rfl zy ?_
  with_reducible refine (spec_l4Fit.calls k a0_0 (fun k_ => some k_ = (.slice Ao12 y206.length co12 : Value).ownBlock) (.slice Ao12 y206.length co12) y206 t209 t210 w _ ?side1 ?side2 A4.out).mono ?_
  (case side1 => repeat (first|(with_reducible first|exact HB.out|apply zm3_|apply zm2_|apply zm4_|refine zm1_ ?_ GE200.out|refine zm1_ ?_ GE201.out|refine zm1_ ?_ GE202.out)|exact HB.out))
  (case side2 => exact Kd.R_tight rfl HO208.out)
  rintro e w13 ⟨v211,rfl,ho0,hb,hkp⟩
  refine ⟨_,rfl,?_⟩
  replace BK200:=zm0_ (blk_kept (zb BK200) hkp (fun hs_ => (fun e_ => (Kd.R_ne HO208.out BK200.out (by decide)) e_) hs_))
  replace BK202:=zm0_ (blk_kept (zb BK202) hkp (fun hs_ => (fun e_ => (Kd.R_ne HO208.out BK202.out (by decide)) e_) hs_))
  have HO212:=zm0_ (zo2_ (ok':=fun k_ => k_ ≠ gb201) ho0 (fun k_ hk_ => Or.elim hk_ (fun hs_ => fun e_ => (Kd.R_away HO208.out (fun _ hk => hk)) (by rw [← e_];exact hs_)) (fun hn_ => (Kd.freshB (g:=gb201) (o:=.cells #[.string a1_0,.string a1_1] 36 (0,0)) (zb BK201) k_ hn_))))
  replace BK201:=zm0_ (blk_kept (zb BK201) hkp (fun hs_ => (fun e_ => (Kd.R_away HO208.out (fun _ hk => hk)) e_) hs_))
  replace HB:=zm0_ (hb)
  clear HO208
  (try clear hb)
  (try clear hkp)
  (try clear ho0)
  obtain ⟨Ao15,co15,eo15⟩:=Kd.R_slice HO212.out
  (first|subst eo15|(injection eo15 with f1_ f2_ f3_;have f4_:=f1_.symm;have f5_:=f3_.symm;clear f1_ f2_ f3_;subst f4_;subst f5_))
  refine hK.out _ _ ⟨(zm6_ BK200.out 0).trans rfl,(zm6_ BK200.out 1).trans rfl,(zm6_ BK201.out 0).trans rfl,(zm6_ BK201.out 1).trans rfl⟩ (fun hHeld => ?_)
  clear hK K
  refine norm_ (a':=?_) ?_ ?_
  rotate_left
  ·
   show Act.put _ (some 13) _ = _
   simp only [Act.put,lA_,lB_,lC_,i64_w,i32_w]
   rfl
  refine one_ (i:=9) (N:=none) #[Y,Y,Y,Y,Y,Y,Y,Y,Y,Y] rfl rfl (one_of HT_.out (by kernel_rfl)) (by decide) (fun K hK => ?_)
  have hs14 : w13.cell? ⟨gb202,0,none⟩ = some (.int .i64 0):=(zm6_ BK202.out 0).trans rfl
  have hfs14:=zm7_ BK202.out 0
  have hns14_0:=NB200_202.out
  have hns14_1:=NB201_202.out
  have hms14_0:=NB202_200.out
  have hms14_1:=NB202_201.out
  have hs16 : w13.cell? ⟨gb202,1,none⟩ = some (.slice none 0 0):=(zm6_ BK202.out 1).trans rfl
  have hfs16:=zm7_ BK202.out 1
  have hns16_0:=NB200_202.out
  have hns16_1:=NB201_202.out
  have hms16_0:=NB202_200.out
  have hms16_1:=NB202_201.out
  refine skip_ (w1:=?_) (by rfl) rfl ?_ ?_
  rotate_left
  ·
   go_simp
   rfl
  refine hK.out _ _ ⟨((cell_far (p:=⟨gb202,_,none⟩) NB200_202.out _).trans (((cell_far (p:=⟨gb202,_,none⟩) NB200_202.out _).trans (hHeld.1)))),((cell_far (p:=⟨gb202,_,none⟩) NB200_202.out _).trans (((cell_far (p:=⟨gb202,_,none⟩) NB200_202.out _).trans (hHeld.2.1)))),((cell_far (p:=⟨gb202,_,none⟩) NB201_202.out _).trans (((cell_far (p:=⟨gb202,_,none⟩) NB201_202.out _).trans (hHeld.2.2.1)))),((cell_far (p:=⟨gb202,_,none⟩) NB201_202.out _).trans (((cell_far (p:=⟨gb202,_,none⟩) NB201_202.out _).trans (hHeld.2.2.2))))⟩ (fun hHeld => ?_)
  clear hK K
  refine done_ (done_of HT_.out (by kernel_rfl)) ?_
  try go_wp2
  refine bodyPost_ret (results_cell_row rfl _ _ gb202 32 #[.int .i64 t209,.slice Ao15 t210.length co15] (0,0) _ rfl (by (with_reducible repeat (first|refine k6_ ?_ _|refine k7_ ?_|refine k5_ ?_ _));refine blk_put (cs:=#[.int .i64 t209,.slice none 0 0]) ?_ 1 _ rfl;(with_reducible repeat (first|refine k6_ ?_ _|refine k7_ ?_|refine k5_ ?_ _));refine blk_put (cs:=#[.int .i64 0,.slice none 0 0]) ?_ 0 _ rfl;(with_reducible repeat (first|refine k6_ ?_ _|refine k7_ ?_|refine k5_ ?_ _));exact BK202.out) Tryz.underlying32 rfl (by kernel_rfl)) rfl ?_
  exact ⟨_,ze,by (with_reducible repeat (first|apply k1_|apply k2_|apply k3_));exact zo2_ (k4_ (p:=⟨gb202,1,none⟩) (k4_ (p:=⟨gb202,0,none⟩) (Kd.R_types HO212.out BK202.out (by decide)) (fun _ hk => hk.2) (.int .i64 t209)) (fun _ hk => hk.2) (.slice Ao15 t210.length co15)) (fun _ hk => trivial),by repeat (first|(with_reducible first|exact HB.out|apply zm3_|apply zm2_|apply zm4_|refine zm1_ ?_ GE200.out|refine zm1_ ?_ GE201.out|refine zm1_ ?_ GE202.out)|exact HB.out)⟩
 ·
  rw [if_neg c3] at H
  exact absurd H (by simp)
end Go.Proofs.YthflimnpiglgbaaGreatDoor.A
end
section
namespace Go.Proofs.YthflimnpiglgbaaGreatDoor.A
open Go.RowKit Go.Proofs.YthflimnpiglgbaaGreatDoorW.PrintWords Go.Proofs.YthflimnpiglgbaaGreatDoorW.PrintLast Go.Proofs.YthflimnpiglgbaaGreatDoorW.PrintMore
attribute [local go_sem] max2_int min2_int max_two min_two max_three min_three max_four min_four   -- for this text's walks alone
set_option linter.unusedVariables false
set_option linter.unusedSimpArgs false

mutual
def spec_PutField.j0 : Nat → Int → Bool → Int → List (S36) → ByteArray → ByteArray → Int → List (S36) → Option (List Int × Int × (List (S36)))
 | 0,_,_,_,_,_,_,_,_ => none
 | k + 1,x2,x23,x214000,x214001,x215000,x215001,x221000,x221001 => if x23 = true then (some ((([] : List Int)),x221000,x221001)) else ((spec_FindField.f k x214000 x214001 x215000 x215001).bind fun bt226 => (if bt226.2 = true then (spec_PutField.j1 k x2 bt226.1 (x2 != 3) x214000 x214001 x215000 x215001 x221000 x221001) else (spec_PutField.j1 k x2 bt226.1 false x214000 x214001 x215000 x215001 x221000 x221001)))
def spec_PutField.j1 : Nat → Int → Int → Bool → Int → List (S36) → ByteArray → ByteArray → Int → List (S36) → Option (List Int × Int × (List (S36)))
 | 0,_,_,_,_,_,_,_,_,_ => none
 | k + 1,x2,x9,x36,x214000,x214001,x215000,x215001,x221000,x221001 => if x36 = true then ((spec_PutPrefix.f k (([] : List Int)) 7 128 x9).bind fun t231 => (some (t231,x221000,x221001))) else ((spec_l5Mode.f x2).bind fun bt234 => ((spec_PutPrefix.f k (([] : List Int)) bt234.1 bt234.2 x9).bind fun t239 => (if x9 = 0 then ((spec_PutString.f k t239 x215000).bind fun t242 => (spec_PutField.j2 k x2 t242 x214000 x214001 x215000 x215001 x221000 x221001)) else (spec_PutField.j2 k x2 t239 x214000 x214001 x215000 x215001 x221000 x221001))))
def spec_PutField.j2 : Nat → Int → List Int → Int → List (S36) → ByteArray → ByteArray → Int → List (S36) → Option (List Int × Int × (List (S36)))
 | 0,_,_,_,_,_,_,_,_ => none
 | k + 1,x2,x13,x214000,x214001,x215000,x215001,x221000,x221001 => (spec_PutString.f k x13 x215001).bind fun t245 => (if x2 = 1 then ((spec_l4Add.f k x214000 x214001 x215000 x215001).bind fun bt248 => (some (t245,bt248.1,bt248.2))) else (some (t245,x221000,x221001)))
end
def spec_PutField.f (k : Nat) (a0_0 : Int) (l0_1 : List (S36)) (a1_0 : ByteArray) (a1_1 : ByteArray) (a2 : Int) : Option (List Int × Int × (List (S36))):=(spec_l4Copy.f a0_0 l0_1).bind fun bt216 => ((spec_TableOk.f k a0_0 l0_1).bind fun t221 => (if t221 = true then ((spec_l1In.f a2 1 3).bind fun t222 => (spec_PutField.j0 k a2 (!t222) a0_0 l0_1 a1_0 a1_1 bt216.1 bt216.2)) else (spec_PutField.j0 k a2 true a0_0 l0_1 a1_0 a1_1 bt216.1 bt216.2)))
theorem spec_PutField.mono_l : ∀ k,(∀ y0 y1 y2 y3 y4 y5 y6 y7,LeO (spec_PutField.j0 k y0 y1 y2 y3 y4 y5 y6 y7) (spec_PutField.j0 (k + 1) y0 y1 y2 y3 y4 y5 y6 y7)) ∧ (∀ y0 y1 y2 y3 y4 y5 y6 y7 y8,LeO (spec_PutField.j1 k y0 y1 y2 y3 y4 y5 y6 y7 y8) (spec_PutField.j1 (k + 1) y0 y1 y2 y3 y4 y5 y6 y7 y8)) ∧ (∀ y0 y1 y2 y3 y4 y5 y6 y7,LeO (spec_PutField.j2 k y0 y1 y2 y3 y4 y5 y6 y7) (spec_PutField.j2 (k + 1) y0 y1 y2 y3 y4 y5 y6 y7))
 | 0 => ⟨fun _ _ _ _ _ _ _ _ r h => by simp [spec_PutField.j0] at h,fun _ _ _ _ _ _ _ _ _ r h => by simp [spec_PutField.j1] at h,fun _ _ _ _ _ _ _ _ r h => by simp [spec_PutField.j2] at h⟩
 | k + 1 => by
  obtain ⟨ih0,ih1,ih2⟩:=spec_PutField.mono_l k
  refine ⟨?_,?_,?_⟩
  ·
   intro y0 y1 y2 y3 y4 y5 y6 y7
   unfold spec_PutField.j0
   repeat' first
   | (with_reducible exact ih0 _ _ _ _ _ _ _ _)
   | (with_reducible exact ih1 _ _ _ _ _ _ _ _ _)
   | (with_reducible exact ih2 _ _ _ _ _ _ _ _)
   | (with_reducible exact spec_FindField.mono _ _ _ _ _)
   | (with_reducible exact spec_PutPrefix.mono _ _ _ _ _)
   | (with_reducible exact spec_PutString.mono _ _ _)
   | (with_reducible exact spec_TableOk.mono _ _ _)
   | (with_reducible exact spec_l4Add.mono _ _ _ _ _)
   | (with_reducible exact LeO.refl _)
   | (with_reducible exact LeO.none _)
   | (with_reducible refine LeO.ite ?_ ?_)
   | (with_reducible refine LeO.bind ?_ (fun _ => ?_))
   | exact ih0 _ _ _ _ _ _ _ _
   | exact ih1 _ _ _ _ _ _ _ _ _
   | exact ih2 _ _ _ _ _ _ _ _
   | exact spec_FindField.mono _ _ _ _ _
   | exact spec_PutPrefix.mono _ _ _ _ _
   | exact spec_PutString.mono _ _ _
   | exact spec_TableOk.mono _ _ _
   | exact spec_l4Add.mono _ _ _ _ _
   | exact LeO.none _
   | refine LeO.ite ?_ ?_
   | refine LeO.bind ?_ (fun _ => ?_)
  ·
   intro y0 y1 y2 y3 y4 y5 y6 y7 y8
   unfold spec_PutField.j1
   repeat' first
   | (with_reducible exact ih0 _ _ _ _ _ _ _ _)
   | (with_reducible exact ih1 _ _ _ _ _ _ _ _ _)
   | (with_reducible exact ih2 _ _ _ _ _ _ _ _)
   | (with_reducible exact spec_FindField.mono _ _ _ _ _)
   | (with_reducible exact spec_PutPrefix.mono _ _ _ _ _)
   | (with_reducible exact spec_PutString.mono _ _ _)
   | (with_reducible exact spec_TableOk.mono _ _ _)
   | (with_reducible exact spec_l4Add.mono _ _ _ _ _)
   | (with_reducible exact LeO.refl _)
   | (with_reducible exact LeO.none _)
   | (with_reducible refine LeO.ite ?_ ?_)
   | (with_reducible refine LeO.bind ?_ (fun _ => ?_))
   | exact ih0 _ _ _ _ _ _ _ _
   | exact ih1 _ _ _ _ _ _ _ _ _
   | exact ih2 _ _ _ _ _ _ _ _
   | exact spec_FindField.mono _ _ _ _ _
   | exact spec_PutPrefix.mono _ _ _ _ _
   | exact spec_PutString.mono _ _ _
   | exact spec_TableOk.mono _ _ _
   | exact spec_l4Add.mono _ _ _ _ _
   | exact LeO.none _
   | refine LeO.ite ?_ ?_
   | refine LeO.bind ?_ (fun _ => ?_)
  ·
   intro y0 y1 y2 y3 y4 y5 y6 y7
   unfold spec_PutField.j2
   repeat' first
   | (with_reducible exact ih0 _ _ _ _ _ _ _ _)
   | (with_reducible exact ih1 _ _ _ _ _ _ _ _ _)
   | (with_reducible exact ih2 _ _ _ _ _ _ _ _)
   | (with_reducible exact spec_FindField.mono _ _ _ _ _)
   | (with_reducible exact spec_PutPrefix.mono _ _ _ _ _)
   | (with_reducible exact spec_PutString.mono _ _ _)
   | (with_reducible exact spec_TableOk.mono _ _ _)
   | (with_reducible exact spec_l4Add.mono _ _ _ _ _)
   | (with_reducible exact LeO.refl _)
   | (with_reducible exact LeO.none _)
   | (with_reducible refine LeO.ite ?_ ?_)
   | (with_reducible refine LeO.bind ?_ (fun _ => ?_))
   | exact ih0 _ _ _ _ _ _ _ _
   | exact ih1 _ _ _ _ _ _ _ _ _
   | exact ih2 _ _ _ _ _ _ _ _
   | exact spec_FindField.mono _ _ _ _ _
   | exact spec_PutPrefix.mono _ _ _ _ _
   | exact spec_PutString.mono _ _ _
   | exact spec_TableOk.mono _ _ _
   | exact spec_l4Add.mono _ _ _ _ _
   | exact LeO.none _
   | refine LeO.ite ?_ ?_
   | refine LeO.bind ?_ (fun _ => ?_)
theorem spec_PutField.mono : ∀ a0 a1 a2 a3 a4 k,LeO (spec_PutField.f k a0 a1 a2 a3 a4) (spec_PutField.f (k + 1) a0 a1 a2 a3 a4):=by
 intro a0 a1 a2 a3 a4 k
 obtain ⟨ih0,ih1,ih2⟩:=spec_PutField.mono_l k
 unfold spec_PutField.f
 repeat' first
  | (with_reducible exact ih0 _ _ _ _ _ _ _ _)
  | (with_reducible exact ih1 _ _ _ _ _ _ _ _ _)
  | (with_reducible exact ih2 _ _ _ _ _ _ _ _)
  | (with_reducible exact spec_FindField.mono _ _ _ _ _)
  | (with_reducible exact spec_PutPrefix.mono _ _ _ _ _)
  | (with_reducible exact spec_PutString.mono _ _ _)
  | (with_reducible exact spec_TableOk.mono _ _ _)
  | (with_reducible exact spec_l4Add.mono _ _ _ _ _)
  | (with_reducible exact LeO.refl _)
  | (with_reducible exact LeO.none _)
  | (with_reducible refine LeO.ite ?_ ?_)
  | (with_reducible refine LeO.bind ?_ (fun _ => ?_))
  | exact ih0 _ _ _ _ _ _ _ _
  | exact ih1 _ _ _ _ _ _ _ _ _
  | exact ih2 _ _ _ _ _ _ _ _
  | exact spec_FindField.mono _ _ _ _ _
  | exact spec_PutPrefix.mono _ _ _ _ _
  | exact spec_PutString.mono _ _ _
  | exact spec_TableOk.mono _ _ _
  | exact spec_l4Add.mono _ _ _ _ _
  | exact LeO.none _
  | refine LeO.ite ?_ ?_
  | refine LeO.bind ?_ (fun _ => ?_)
set_option maxHeartbeats 8000000 in
set_option maxRecDepth 100000 in
theorem spec_PutField.calls (k : Nat) (a0_0 : Int) (A0_1 : Option Addr) (c0_1 : Nat) (l0_1 : List (S36)) (a1_0 : ByteArray) (a1_1 : ByteArray) (a2 : Int) (r1 : List Int) (r2 : Int) (r3 : List (S36)) (w : World) (hr0_1 : Kd.C k36 w A0_1 l0_1.length l0_1) (hc0_1 : l0_1.length ≤ c0_1) (h : spec_PutField.f k a0_0 l0_1 a1_0 a1_1 a2 = some (r1,r2,r3)) :
 Calls Tryz.prog 7 #[.agg #[.int .i64 a0_0,.slice A0_1 l0_1.length c0_1],.agg #[.string a1_0,.string a1_1],.int .i64 a2] w fun e w' => ∃ v0_ v2_ : Value,e = .returned (.tuple #[v0_,.agg #[.int .i64 r2,v2_]]) ∧ Kd.R (Kd.int .u8) 5 w' w.heap.size (fun _ => True) v0_ r1 ∧ Kd.R k36 36 w' w.heap.size (fun _ => True) v2_ r3 ∧ Below w.heap.size w w':=by
 have hu32:=Tryz.underlying32
 have hu36:=Tryz.underlying36
 have HR0_1:=zm0_ hr0_1
 have HC0_1:=zm0_ hc0_1
 clear hr0_1 hc0_1
 have HB:=zm0_ (Below.refl w.heap.size w)
 have H : ((spec_l4Copy.f a0_0 l0_1).bind fun bt216 => ((spec_TableOk.f k a0_0 l0_1).bind fun t221 => (if t221 = true then ((spec_l1In.f a2 1 3).bind fun t222 => (spec_PutField.j0 k a2 (!t222) a0_0 l0_1 a1_0 a1_1 bt216.1 bt216.2)) else (spec_PutField.j0 k a2 true a0_0 l0_1 a1_0 a1_1 bt216.1 bt216.2)))) = some (r1,r2,r3):=h
 clear h
 replace H:=zq1_ H
 obtain ⟨⟨t216,t217⟩,A40,H⟩:=H
 replace H : ((spec_TableOk.f k a0_0 l0_1).bind fun t221 => (if t221 = true then ((spec_l1In.f a2 1 3).bind fun t222 => (spec_PutField.j0 k a2 (!t222) a0_0 l0_1 a1_0 a1_1 t216 t217)) else (spec_PutField.j0 k a2 true a0_0 l0_1 a1_0 a1_1 t216 t217))) = some (r1,r2,r3):=H
 have A4:=zm0_ A40
 clear A40
 have HC5:=zm0_ H
 clear H
 go_enter Tryz.func7,Tryz.ntmps7
 go_upto_region 2 with (first|((with_reducible refine gate_dst (N:=3) rfl ?_);refine box_event ?hg (N:=3) ?hd (cs:=#[.int .i64 a0_0,.slice A0_1 l0_1.length c0_1]) (t:=32) ?hr ?_;(case hd => rfl);(case hg => rfl);(case hr => first|(go_simp;done)|(go_simp;rfl));intro gb213 hg w6 hbox hb;have BK213:=zm0_ (hbox);have GW213:=zm0_ ((by rw [hg];exact (zn9_ (zl HB)) : w.heap.size ≤ gb213));have GE213:=zm0_ ((by rw [hg];exact (zn9_ (zl HB)) : w.heap.size ≤ gb213));replace HB:=zm0_ (zn8_ (zl HB) hb);clear hb hbox hg)|((with_reducible refine gate_dst (N:=4) rfl ?_);refine box_event ?hg (N:=4) ?hd (cs:=#[.string a1_0,.string a1_1]) (t:=36) ?hr ?_;(case hd => rfl);(case hg => rfl);(case hr => first|(go_simp;done)|(go_simp;rfl));intro gb214 hg w7 hbox hb;have BK214:=zm0_ (hbox);have GW214:=zm0_ ((by rw [hg];exact (zn9_ (zl1 HB GE213)) : w.heap.size ≤ gb214));have GE214:=zm0_ ((by rw [hg];exact (zn9_ (zl1 HB GE213)) : w.heap.size ≤ gb214));replace HB:=zm0_ (zn8_ (zl1 HB GE213) hb);have NB213_214:=zm0_ ((by rw [hg];exact Nat.ne_of_lt (zo3_ (g:=gb213) (o:=.cells #[.int .i64 a0_0,.slice A0_1 l0_1.length c0_1] 32 (0,0)) (zb BK213)) : gb213 ≠ gb214));have NB214_213:=zm0_ ((by rw [hg];exact Nat.ne_of_gt (zo3_ (g:=gb213) (o:=.cells #[.int .i64 a0_0,.slice A0_1 l0_1.length c0_1] 32 (0,0)) (zb BK213)) : gb214 ≠ gb213));replace BK213:=zm0_ (zm5_ (zb BK213) hb);clear hb hbox hg)|((with_reducible refine gate_dst (N:=7) rfl ?_);refine box_event ?hg (N:=7) ?hd (cs:=#[.int .i64 0,.slice none 0 0]) (t:=32) ?hr ?_;(case hd => rfl);(case hg => rfl);(case hr => first|(go_simp;done)|(go_simp;rfl));intro gb215 hg w8 hbox hb;have BK215:=zm0_ (hbox);have GW215:=zm0_ ((by rw [hg];exact (zn9_ (zl2 HB GE213 GE214)) : w.heap.size ≤ gb215));have GE215:=zm0_ ((by rw [hg];exact (zn9_ (zl2 HB GE213 GE214)) : w.heap.size ≤ gb215));replace HB:=zm0_ (zn8_ (zl2 HB GE213 GE214) hb);have NB213_215:=zm0_ ((by rw [hg];exact Nat.ne_of_lt (zo3_ (g:=gb213) (o:=.cells #[.int .i64 a0_0,.slice A0_1 l0_1.length c0_1] 32 (0,0)) (zb BK213)) : gb213 ≠ gb215));have NB215_213:=zm0_ ((by rw [hg];exact Nat.ne_of_gt (zo3_ (g:=gb213) (o:=.cells #[.int .i64 a0_0,.slice A0_1 l0_1.length c0_1] 32 (0,0)) (zb BK213)) : gb215 ≠ gb213));replace BK213:=zm0_ (zm5_ (zb BK213) hb);have NB214_215:=zm0_ ((by rw [hg];exact Nat.ne_of_lt (zo3_ (g:=gb214) (o:=.cells #[.string a1_0,.string a1_1] 36 (0,0)) (zb BK214)) : gb214 ≠ gb215));have NB215_214:=zm0_ ((by rw [hg];exact Nat.ne_of_gt (zo3_ (g:=gb214) (o:=.cells #[.string a1_0,.string a1_1] 36 (0,0)) (zb BK214)) : gb215 ≠ gb214));replace BK214:=zm0_ (zm5_ (zb BK214) hb);clear hb hbox hg;have hnb9:=NB213_214.out;have hnc9:=NB214_213.out;have hnb10:=NB213_215.out;have hnc10:=NB215_213.out;have hcz11_0 : w8.cell? ⟨gb213,0,none⟩ = some (.int .i64 a0_0):=(zm6_ BK213.out 0).trans rfl;have hcz11_1 : w8.cell? ⟨gb213,1,none⟩ = some (.slice A0_1 l0_1.length c0_1):=(zm6_ BK213.out 1).trans rfl;have hfz11_0:=zm7_ BK213.out 0;have hfz11_1:=zm7_ BK213.out 1)|((with_reducible refine gate_callee (f:=23) rfl ?_);refine goesL_ (some 15) rfl rfl Tryz.func23 (by kernel_rfl) rfl #[.agg #[.int .i64 a0_0,.slice A0_1 l0_1.length c0_1]] rfl zy ?_;(with_reducible refine (spec_l4Copy.calls a0_0 _ _ l0_1 t216 t217 _ ?side1 ?side2 A4.out).mono ?_);(case side1 => repeat (first|exact (Kd.C_below HR0_1.out HB.out)|(with_reducible refine Kd.C_alloc ?_ _)|(with_reducible refine Kd.C_drewN ?_ _)|(with_reducible refine Kd.C_drew ?_)));(case side2 => exact HC0_1.out);rintro e w12 ⟨v218,rfl,ho0,hb⟩;refine ⟨_,rfl,?_⟩;have HO219:=zm0_ (zo1_ (Kd.R_newB ho0 (g:=gb214) (o:=.cells #[.string a1_0,.string a1_1] 36 (0,0)) (zb BK214)) (zn9_ (zl3 HB GE213 GE214 GE215)));replace BK213:=zm0_ (zm5_ (zb BK213) hb);replace BK214:=zm0_ (zm5_ (zb BK214) hb);replace BK215:=zm0_ (zm5_ (zb BK215) hb);replace HB:=zm0_ (zn8_ (zl3 HB GE213 GE214 GE215) hb);(try clear hb);(try clear hb2);(try clear hk);(try clear hi);(try clear ho0))|((with_reducible refine gate_dst (N:=8) rfl ?_);refine box_event ?hg (N:=8) ?hd (cs:=#[.int .i64 0,.slice none 0 0]) (t:=32) ?hr ?_;(case hd => rfl);(case hg => rfl);(case hr => first|(go_simp;done)|(go_simp;rfl));intro gb220 hg w13 hbox hb;replace HO219:=zm0_ (zm8_ (zr HO219) hb);have BK220:=zm0_ (hbox);have GW220:=zm0_ ((by rw [hg];exact (zn9_ (zl3 HB GE213 GE214 GE215)) : w.heap.size ≤ gb220));have GE220:=zm0_ ((by rw [hg];exact (zn9_ (zl3 HB GE213 GE214 GE215)) : w.heap.size ≤ gb220));replace HB:=zm0_ (zn8_ (zl3 HB GE213 GE214 GE215) hb);have NB213_220:=zm0_ ((by rw [hg];exact Nat.ne_of_lt (zo3_ (g:=gb213) (o:=.cells #[.int .i64 a0_0,.slice A0_1 l0_1.length c0_1] 32 (0,0)) (zb BK213)) : gb213 ≠ gb220));have NB220_213:=zm0_ ((by rw [hg];exact Nat.ne_of_gt (zo3_ (g:=gb213) (o:=.cells #[.int .i64 a0_0,.slice A0_1 l0_1.length c0_1] 32 (0,0)) (zb BK213)) : gb220 ≠ gb213));replace BK213:=zm0_ (zm5_ (zb BK213) hb);have NB214_220:=zm0_ ((by rw [hg];exact Nat.ne_of_lt (zo3_ (g:=gb214) (o:=.cells #[.string a1_0,.string a1_1] 36 (0,0)) (zb BK214)) : gb214 ≠ gb220));have NB220_214:=zm0_ ((by rw [hg];exact Nat.ne_of_gt (zo3_ (g:=gb214) (o:=.cells #[.string a1_0,.string a1_1] 36 (0,0)) (zb BK214)) : gb220 ≠ gb214));replace BK214:=zm0_ (zm5_ (zb BK214) hb);have NB215_220:=zm0_ ((by rw [hg];exact Nat.ne_of_lt (zo3_ (g:=gb215) (o:=.cells #[.int .i64 0,.slice none 0 0] 32 (0,0)) (zb BK215)) : gb215 ≠ gb220));have NB220_215:=zm0_ ((by rw [hg];exact Nat.ne_of_gt (zo3_ (g:=gb215) (o:=.cells #[.int .i64 0,.slice none 0 0] 32 (0,0)) (zb BK215)) : gb220 ≠ gb215));replace BK215:=zm0_ (zm5_ (zb BK215) hb);clear hb hbox hg;have hnb14:=NB220_213.out;have hnc14:=NB213_220.out;have hnb15:=NB220_214.out;have hnc15:=NB214_220.out;have hnb16:=NB220_215.out;have hnc16:=NB215_220.out;have hcz17_0 : w13.cell? ⟨gb220,0,none⟩ = some (.int .i64 0):=(zm6_ BK220.out 0).trans rfl;have hcz17_1 : w13.cell? ⟨gb220,1,none⟩ = some (.slice none 0 0):=(zm6_ BK220.out 1).trans rfl;have hfz17_0:=zm7_ BK220.out 0;have hfz17_1:=zm7_ BK220.out 1;obtain ⟨Ao18,co18,eo18⟩:=Kd.R_slice HO219.out;subst eo18))
 (try simp only [Act.put,lA_,lB_,lC_])
 go_cut [23] (fun v23 wc => ∃ (kq : Nat) (x23_4 : Bool),v23 = .bool x23_4 ∧ Aside0 (spec_PutField.j0 kq a2 x23_4 a0_0 l0_1 a1_0 a1_1 t216 t217 = some (r1,r2,r3)) ∧ Aside0 (kq ≤ k) ∧ Aside0 (Kd.R k36 36 wc w.heap.size (fun k_ => k_ ≠ gb214) (.slice Ao18 t217.length co18) t217) ∧ Aside0 (wc.heap[gb213]? = some (.cells #[.int .i64 a0_0,(.slice A0_1 l0_1.length c0_1)] 32 (0,0))) ∧ Aside0 (wc.heap[gb214]? = some (.cells #[.string a1_0,.string a1_1] 36 (0,0))) ∧ Aside0 (wc.heap[gb215]? = some (.cells #[.int .i64 0,(.slice none 0 0)] 32 (0,0))) ∧ Aside0 (wc.heap[gb220]? = some (.cells #[.int .i64 t216,(.slice Ao18 t217.length co18)] 32 (0,0))) ∧ Aside0 (Below w.heap.size w wc))
 case first =>
  have H:=HC5.out
  clear HC5
  replace H:=zq1_ H
  obtain ⟨t221,A190,H⟩:=H
  replace H : (if t221 = true then ((spec_l1In.f a2 1 3).bind fun t222 => (spec_PutField.j0 k a2 (!t222) a0_0 l0_1 a1_0 a1_1 t216 t217)) else (spec_PutField.j0 k a2 true a0_0 l0_1 a1_0 a1_1 t216 t217)) = some (r1,r2,r3):=H
  have A19:=zm0_ A190
  clear A190
  by_cases c20 : t221 = true
  ·
   subst c20
   rw [if_pos rfl] at H
   replace H:=zq1_ H
   obtain ⟨t222,A210,H⟩:=H
   replace H : (spec_PutField.j0 k a2 (!t222) a0_0 l0_1 a1_0 a1_1 t216 t217) = some (r1,r2,r3):=H
   have A21:=zm0_ A210
   clear A210
   have H':=zm0_ H
   clear H
   have hnb22:=NB213_214.out
   have hnc22:=NB214_213.out
   have hnb23:=NB213_215.out
   have hnc23:=NB215_213.out
   have hnb24:=NB213_220.out
   have hnc24:=NB220_213.out
   have hcz25_0 : w13.cell? ⟨gb213,0,none⟩ = some (.int .i64 a0_0):=(zm6_ BK213.out 0).trans rfl
   have hcz25_1 : w13.cell? ⟨gb213,1,none⟩ = some (.slice A0_1 l0_1.length c0_1):=(zm6_ BK213.out 1).trans rfl
   have hfz25_0:=zm7_ BK213.out 0
   have hfz25_1:=zm7_ BK213.out 1
   go_wp2_with (first|((with_reducible refine gate_callee (f:=24) rfl ?_);refine goesL_ (some 17) rfl rfl Tryz.func24 (by kernel_rfl) rfl #[.agg #[.int .i64 a0_0,.slice A0_1 l0_1.length c0_1]] rfl zy ?_;(with_reducible refine (spec_TableOk.calls k a0_0 _ _ l0_1 true _ ?side1 ?side2 A19.out).mono ?_);(case side1 => exact Kd.C_below HR0_1.out (zl4 HB GE213 GE214 GE215 GE220));(case side2 => exact HC0_1.out);rintro e w26 ⟨rfl,hb⟩;refine ⟨_,rfl,?_⟩;replace HO219:=zm0_ (zm8_ (zs (zo2_ (k4_ (p:=⟨gb220,1,none⟩) (k4_ (p:=⟨gb220,0,none⟩) (Kd.R_types HO219.out BK220.out (by decide)) (fun _ hk => hk.2) (.int .i64 t216)) (fun _ hk => hk.2) (.slice Ao18 t217.length co18)) (fun _ h_ => h_.1))) hb);replace BK213:=zm0_ (zm5_ (g:=gb213) (o:=.cells #[.int .i64 a0_0,.slice A0_1 l0_1.length c0_1] 32 (0,0)) (by (with_reducible repeat (first|refine k6_ ?_ _|refine k7_ ?_|refine k5_ ?_ _));refine blk_far ?_ NB213_220.out _;(with_reducible repeat (first|refine k6_ ?_ _|refine k7_ ?_|refine k5_ ?_ _));refine blk_far ?_ NB213_220.out _;(with_reducible repeat (first|refine k6_ ?_ _|refine k7_ ?_|refine k5_ ?_ _));exact BK213.out) hb);replace BK214:=zm0_ (zm5_ (g:=gb214) (o:=.cells #[.string a1_0,.string a1_1] 36 (0,0)) (by (with_reducible repeat (first|refine k6_ ?_ _|refine k7_ ?_|refine k5_ ?_ _));refine blk_far ?_ NB214_220.out _;(with_reducible repeat (first|refine k6_ ?_ _|refine k7_ ?_|refine k5_ ?_ _));refine blk_far ?_ NB214_220.out _;(with_reducible repeat (first|refine k6_ ?_ _|refine k7_ ?_|refine k5_ ?_ _));exact BK214.out) hb);replace BK215:=zm0_ (zm5_ (g:=gb215) (o:=.cells #[.int .i64 0,.slice none 0 0] 32 (0,0)) (by (with_reducible repeat (first|refine k6_ ?_ _|refine k7_ ?_|refine k5_ ?_ _));refine blk_far ?_ NB215_220.out _;(with_reducible repeat (first|refine k6_ ?_ _|refine k7_ ?_|refine k5_ ?_ _));refine blk_far ?_ NB215_220.out _;(with_reducible repeat (first|refine k6_ ?_ _|refine k7_ ?_|refine k5_ ?_ _));exact BK215.out) hb);replace BK220:=zm0_ (zm5_ (g:=gb220) (o:=.cells #[.int .i64 t216,.slice Ao18 t217.length co18] 32 (0,0)) (by (with_reducible repeat (first|refine k6_ ?_ _|refine k7_ ?_|refine k5_ ?_ _));refine blk_put (cs:=#[.int .i64 t216,.slice none 0 0]) ?_ 1 _ rfl;(with_reducible repeat (first|refine k6_ ?_ _|refine k7_ ?_|refine k5_ ?_ _));refine blk_put (cs:=#[.int .i64 0,.slice none 0 0]) ?_ 0 _ rfl;(with_reducible repeat (first|refine k6_ ?_ _|refine k7_ ?_|refine k5_ ?_ _));exact BK220.out) hb);replace HB:=zm0_ (zn8_ (zl4 HB GE213 GE214 GE215 GE220) hb);(try clear hb);(try clear hb2);(try clear hk);(try clear hi))|(go_at_call 25;(with_reducible refine (spec_l1In.calls a2 1 3 t222 _ A21.out).mono ?_);rintro e w' ⟨rfl,⟨nd,rfl⟩⟩))
   go_meet
   case rel => exact ⟨_,(!t222),zz,H',⟨by first|omega|exact Nat.le_refl _⟩,⟨by (with_reducible repeat (first|apply k1_|apply k2_|apply k3_));exact zo2_ HO219.out (fun _ hk => (by first|exact hk.2|(have hq_:=hk;simp only [ne_eq] at hq_ ⊢;simp only [hq_,not_false_eq_true,and_self])))⟩,⟨zb BK213⟩,⟨zb BK214⟩,⟨zb BK215⟩,⟨zb BK220⟩,⟨zl4 HB GE213 GE214 GE215 GE220⟩⟩
  ·
   replace c20:=Bool.eq_false_iff.mpr c20
   subst c20
   rw [if_neg (show ¬ (false = true) by decide)] at H
   have H':=zm0_ H
   clear H
   have hnb27:=NB213_214.out
   have hnc27:=NB214_213.out
   have hnb28:=NB213_215.out
   have hnc28:=NB215_213.out
   have hnb29:=NB213_220.out
   have hnc29:=NB220_213.out
   have hcz30_0 : w13.cell? ⟨gb213,0,none⟩ = some (.int .i64 a0_0):=(zm6_ BK213.out 0).trans rfl
   have hcz30_1 : w13.cell? ⟨gb213,1,none⟩ = some (.slice A0_1 l0_1.length c0_1):=(zm6_ BK213.out 1).trans rfl
   have hfz30_0:=zm7_ BK213.out 0
   have hfz30_1:=zm7_ BK213.out 1
   go_wp2_with (first|((with_reducible refine gate_callee (f:=24) rfl ?_);refine goesL_ (some 17) rfl rfl Tryz.func24 (by kernel_rfl) rfl #[.agg #[.int .i64 a0_0,.slice A0_1 l0_1.length c0_1]] rfl zy ?_;(with_reducible refine (spec_TableOk.calls k a0_0 _ _ l0_1 false _ ?side1 ?side2 A19.out).mono ?_);(case side1 => exact Kd.C_below HR0_1.out (zl4 HB GE213 GE214 GE215 GE220));(case side2 => exact HC0_1.out);rintro e w31 ⟨rfl,hb⟩;refine ⟨_,rfl,?_⟩;replace HO219:=zm0_ (zm8_ (zs (zo2_ (k4_ (p:=⟨gb220,1,none⟩) (k4_ (p:=⟨gb220,0,none⟩) (Kd.R_types HO219.out BK220.out (by decide)) (fun _ hk => hk.2) (.int .i64 t216)) (fun _ hk => hk.2) (.slice Ao18 t217.length co18)) (fun _ h_ => h_.1))) hb);replace BK213:=zm0_ (zm5_ (g:=gb213) (o:=.cells #[.int .i64 a0_0,.slice A0_1 l0_1.length c0_1] 32 (0,0)) (by (with_reducible repeat (first|refine k6_ ?_ _|refine k7_ ?_|refine k5_ ?_ _));refine blk_far ?_ NB213_220.out _;(with_reducible repeat (first|refine k6_ ?_ _|refine k7_ ?_|refine k5_ ?_ _));refine blk_far ?_ NB213_220.out _;(with_reducible repeat (first|refine k6_ ?_ _|refine k7_ ?_|refine k5_ ?_ _));exact BK213.out) hb);replace BK214:=zm0_ (zm5_ (g:=gb214) (o:=.cells #[.string a1_0,.string a1_1] 36 (0,0)) (by (with_reducible repeat (first|refine k6_ ?_ _|refine k7_ ?_|refine k5_ ?_ _));refine blk_far ?_ NB214_220.out _;(with_reducible repeat (first|refine k6_ ?_ _|refine k7_ ?_|refine k5_ ?_ _));refine blk_far ?_ NB214_220.out _;(with_reducible repeat (first|refine k6_ ?_ _|refine k7_ ?_|refine k5_ ?_ _));exact BK214.out) hb);replace BK215:=zm0_ (zm5_ (g:=gb215) (o:=.cells #[.int .i64 0,.slice none 0 0] 32 (0,0)) (by (with_reducible repeat (first|refine k6_ ?_ _|refine k7_ ?_|refine k5_ ?_ _));refine blk_far ?_ NB215_220.out _;(with_reducible repeat (first|refine k6_ ?_ _|refine k7_ ?_|refine k5_ ?_ _));refine blk_far ?_ NB215_220.out _;(with_reducible repeat (first|refine k6_ ?_ _|refine k7_ ?_|refine k5_ ?_ _));exact BK215.out) hb);replace BK220:=zm0_ (zm5_ (g:=gb220) (o:=.cells #[.int .i64 t216,.slice Ao18 t217.length co18] 32 (0,0)) (by (with_reducible repeat (first|refine k6_ ?_ _|refine k7_ ?_|refine k5_ ?_ _));refine blk_put (cs:=#[.int .i64 t216,.slice none 0 0]) ?_ 1 _ rfl;(with_reducible repeat (first|refine k6_ ?_ _|refine k7_ ?_|refine k5_ ?_ _));refine blk_put (cs:=#[.int .i64 0,.slice none 0 0]) ?_ 0 _ rfl;(with_reducible repeat (first|refine k6_ ?_ _|refine k7_ ?_|refine k5_ ?_ _));exact BK220.out) hb);replace HB:=zm0_ (zn8_ (zl4 HB GE213 GE214 GE215 GE220) hb);(try clear hb);(try clear hb2);(try clear hk);(try clear hi)))
   go_meet
   case rel => exact ⟨_,(true),zz,H',⟨by first|omega|exact Nat.le_refl _⟩,⟨by (with_reducible repeat (first|apply k1_|apply k2_|apply k3_));exact zo2_ HO219.out (fun _ hk => (by first|exact hk.2|(have hq_:=hk;simp only [ne_eq] at hq_ ⊢;simp only [hq_,not_false_eq_true,and_self])))⟩,⟨zb BK213⟩,⟨zb BK214⟩,⟨zb BK215⟩,⟨zb BK220⟩,⟨zl4 HB GE213 GE214 GE215 GE220⟩⟩
 case rest =>
  clear HC5
  try clear c1
  try clear c2
  try clear p2
  try clear c7
  try clear c9
  try clear c10
  try clear c14
  try clear c15
  try clear c16
  try clear c20
  try clear c22
  try clear c23
  try clear c24
  try clear c27
  try clear c28
  try clear c29
  try clear hcz11_0
  try clear hcz11_1
  try clear hcz17_0
  try clear hcz17_1
  try clear hcz25_0
  try clear hcz25_1
  try clear hcz30_0
  try clear hcz30_1
  try clear hfz11_0
  try clear hfz11_1
  try clear hfz17_0
  try clear hfz17_1
  try clear hfz25_0
  try clear hfz25_1
  try clear hfz30_0
  try clear hfz30_1
  obtain ⟨kq,x23_4,rfl,HA,HJ4,HO_221001,BK213,BK214,BK215,BK220,HB⟩:=hcut
  cases kq with
  | zero => exact absurd HA.out (by simp [spec_PutField.j0])
  | succ kj4 =>
   have H:=HA.out
   clear HA
   simp only [spec_PutField.j0] at H
   by_cases c32 : x23_4 = true
   ·
    subst c32
    rw [if_pos rfl] at H
    obtain ⟨y223,hy223⟩ : ∃ y_ : List Int,y_ = (([] : List Int)):=⟨_,rfl⟩
    replace H : (some (y223,t216,t217)) = some (r1,r2,r3):=by first|(rw [hy223];with_reducible exact H)|(have H2_:=(Option.bind_some _ _).symm.trans H;rw [hy223];with_reducible exact H2_)|(have H2_:=(Option.bind_some _ _).symm.trans H;with_reducible exact H2_)|with_reducible exact H|(rw [hy223];exact H)|exact H
    have Ny223:=zm0_ hy223
    clear hy223
    simp only [Option.some.injEq,Prod.mk.injEq] at H
    obtain ⟨rfl,rfl,rfl⟩:=H
    try go_wp2
    replace HO_221001:=zm0_ (k3_ HO_221001.out)
    replace BK213:=zm0_ (k7_ BK213.out)
    replace BK214:=zm0_ (k7_ BK214.out)
    replace BK215:=zm0_ (k7_ BK215.out)
    replace BK220:=zm0_ (k7_ BK220.out)
    replace HB:=zm0_ (zm4_ HB.out)
    refine start_ (n:=4) (S:=fun w' => w'.cell? ⟨gb220,0,none⟩ = some (.int .i64 t216) ∧ w'.cell? ⟨gb220,1,none⟩ = some (.slice Ao18 t217.length co18)) (ds:=[]) #[Z,Z,Z,Z] (by kernel_rfl) rfl rfl ⟨(zm6_ BK220.out 0).trans rfl,(zm6_ BK220.out 1).trans rfl⟩ (fun hHeld => ?_)
    generalize wc.drew = w33 at HO_221001 BK213 BK214 BK215 BK220 HB hHeld ⊢
    refine take_ (i:=1) (N:=some 25) (v:=?_) (a':=?_) #[Z,Y,Z,Z] rfl rfl (by kernel_rfl) (fun _ _ _ h => h) (Or.inl ⟨by rfl,?_⟩) hHeld ?_ ?_
    rotate_left
    ·
     rintro w' ⟨s0,s1⟩
     go_simp
     with_reducible rfl
    rotate_left
    ·
     simp only [Act.put,lA_,lB_,lC_,i64_w,i32_w]
     rfl
    refine one_ (i:=0) (N:=some 24) #[Y,Y,Z,Z] rfl rfl (by kernel_rfl) (by decide) (fun K hK => ?_)
    refine Kd.R_lit_step (Kd.int .u8) _ 5 ?hg (N:=24) ?hd (xs:=([] : List Int)) (inner:=[]) (ok:=fun _ => True) (okp:=fun _ => True) ?hr ?hp (fun _ hk => hk) trivial (Below.refl _ _) (Nat.le_refl _) (by simp) ?_;(case hd => rfl);(case hg => rfl);(case hr => first|(go_simp;done)|(go_simp;rfl));(case hp => exact (Reps.none _ _))
    intro v224 w34 ho35 hb hg_ hnew_
    clear hg_ hnew_
    (first|rw [← Ny223.out] at ho35|(simp only [Int.reduceToNat] at ho35;rw [← Ny223.out] at ho35))
    replace HO_221001:=zm0_ (zm8_ (zr HO_221001) hb)
    have HO225:=zm0_ (zo1_ ho35 (zn9_ (zl4 HB GE213 GE214 GE215 GE220)))
    replace BK213:=zm0_ (zm5_ (zb BK213) hb)
    replace BK214:=zm0_ (zm5_ (zb BK214) hb)
    replace BK215:=zm0_ (zm5_ (zb BK215) hb)
    replace BK220:=zm0_ (zm5_ (zb BK220) hb)
    replace HB:=zm0_ (zn8_ (zl4 HB GE213 GE214 GE215 GE220) hb)
    clear hb ho35
    refine hK.out _ _ ⟨(zm6_ BK220.out 0).trans rfl,(zm6_ BK220.out 1).trans rfl⟩ (fun hHeld => ?_)
    clear hK K
    refine norm_ (a':=?_) ?_ ?_
    rotate_left
    ·
     show Act.put _ (some 24) _ = _
     simp only [Act.put,lA_,lB_,lC_,i64_w,i32_w]
     rfl
    refine pure_ (i:=2) (N:=some 6) (v:=?_) (a':=?_) #[Y,Y,Y,Z] rfl rfl (by kernel_rfl) (fun _ _ _ h => h) (Or.inl ⟨by rfl,?_⟩) ?_ ?_
    rotate_left
    ·
     intro w'
     go_simp
     with_reducible rfl
    rotate_left
    ·
     simp only [Act.put,lA_,lB_,lC_,i64_w,i32_w]
     rfl
    refine one_ (i:=3) (N:=none) #[Y,Y,Y,Y] rfl rfl (by kernel_rfl) (by decide) (fun K hK => ?_)
    have hs36 : w34.cell? ⟨gb215,0,none⟩ = some (.int .i64 0):=(zm6_ BK215.out 0).trans rfl
    have hfs36:=zm7_ BK215.out 0
    have hns36_0:=NB213_215.out
    have hns36_1:=NB214_215.out
    have hns36_3:=NB220_215.out
    have hms36_0:=NB215_213.out
    have hms36_1:=NB215_214.out
    have hms36_3:=NB215_220.out
    have hs37 : w34.cell? ⟨gb215,1,none⟩ = some (.slice none 0 0):=(zm6_ BK215.out 1).trans rfl
    have hfs37:=zm7_ BK215.out 1
    have hns37_0:=NB213_215.out
    have hns37_1:=NB214_215.out
    have hns37_3:=NB220_215.out
    have hms37_0:=NB215_213.out
    have hms37_1:=NB215_214.out
    have hms37_3:=NB215_220.out
    refine skip_ (w1:=?_) (by rfl) rfl ?_ ?_
    rotate_left
    ·
     go_simp
     rfl
    refine hK.out _ _ ⟨((cell_far (p:=⟨gb215,_,none⟩) NB220_215.out _).trans (((cell_far (p:=⟨gb215,_,none⟩) NB220_215.out _).trans (hHeld.1)))),((cell_far (p:=⟨gb215,_,none⟩) NB220_215.out _).trans (((cell_far (p:=⟨gb215,_,none⟩) NB220_215.out _).trans (hHeld.2))))⟩ (fun hHeld => ?_)
    clear hK K
    refine done_ (by kernel_rfl) ?_
    try go_wp2
    refine bodyPost_ret (results_tc rfl _ _ gb215 32 #[.int .i64 t216,.slice Ao18 t217.length co18] (0,0) _ rfl (by (with_reducible repeat (first|refine k6_ ?_ _|refine k7_ ?_|refine k5_ ?_ _));refine blk_put (cs:=#[.int .i64 t216,.slice none 0 0]) ?_ 1 _ rfl;(with_reducible repeat (first|refine k6_ ?_ _|refine k7_ ?_|refine k5_ ?_ _));refine blk_put (cs:=#[.int .i64 0,.slice none 0 0]) ?_ 0 _ rfl;(with_reducible repeat (first|refine k6_ ?_ _|refine k7_ ?_|refine k5_ ?_ _));exact BK215.out) Tryz.underlying32 rfl (by kernel_rfl)) rfl ?_
    exact ⟨_,_,ze,by (with_reducible repeat (first|apply k1_|apply k2_|apply k3_));exact zo2_ (k4_ (p:=⟨gb215,1,none⟩) (k4_ (p:=⟨gb215,0,none⟩) (Kd.R_types HO225.out BK215.out (by decide)) (fun _ hk => hk.2) (.int .i64 t216)) (fun _ hk => hk.2) (.slice Ao18 t217.length co18)) (fun _ hk => trivial),by (with_reducible repeat (first|apply k1_|apply k2_|apply k3_));exact zo2_ (k4_ (p:=⟨gb215,1,none⟩) (k4_ (p:=⟨gb215,0,none⟩) (Kd.R_types HO_221001.out BK215.out (by decide)) (fun _ hk => hk.2) (.int .i64 t216)) (fun _ hk => hk.2) (.slice Ao18 t217.length co18)) (fun _ hk => trivial),by repeat (first|(with_reducible first|exact HB.out|apply zm3_|apply zm2_|apply zm4_|refine zm1_ ?_ GE213.out|refine zm1_ ?_ GE214.out|refine zm1_ ?_ GE215.out|refine zm1_ ?_ GE220.out)|exact HB.out)⟩
   ·
    replace c32:=Bool.eq_false_iff.mpr c32
    subst c32
    rw [if_neg (show ¬ (false = true) by decide)] at H
    replace H:=zq1_ H
    obtain ⟨⟨t226,t227⟩,A380,H⟩:=H
    replace H : (if t227 = true then (spec_PutField.j1 kj4 a2 t226 (a2 != 3) a0_0 l0_1 a1_0 a1_1 t216 t217) else (spec_PutField.j1 kj4 a2 t226 false a0_0 l0_1 a1_0 a1_1 t216 t217)) = some (r1,r2,r3):=H
    have A38:=zm0_ A380
    clear A380
    have HC39:=zm0_ H
    clear H
    have hnb40:=NB213_214.out
    have hnc40:=NB214_213.out
    have hnb41:=NB213_215.out
    have hnc41:=NB215_213.out
    have hnb42:=NB213_220.out
    have hnc42:=NB220_213.out
    have hcz43_0 : wc.cell? ⟨gb213,0,none⟩ = some (.int .i64 a0_0):=(zm6_ BK213.out 0).trans rfl
    have hcz43_1 : wc.cell? ⟨gb213,1,none⟩ = some (.slice A0_1 l0_1.length c0_1):=(zm6_ BK213.out 1).trans rfl
    have hfz43_0:=zm7_ BK213.out 0
    have hfz43_1:=zm7_ BK213.out 1
    have hnb44:=NB214_215.out
    have hnc44:=NB215_214.out
    have hnb45:=NB214_220.out
    have hnc45:=NB220_214.out
    have hcz46_0 : wc.cell? ⟨gb214,0,none⟩ = some (.string a1_0):=(zm6_ BK214.out 0).trans rfl
    have hcz46_1 : wc.cell? ⟨gb214,1,none⟩ = some (.string a1_1):=(zm6_ BK214.out 1).trans rfl
    have hfz46_0:=zm7_ BK214.out 0
    have hfz46_1:=zm7_ BK214.out 1
    go_upto_region 5 with (first|((with_reducible refine gate_callee (f:=26) rfl ?_);refine goesL_ (some 29) rfl rfl Tryz.func26 (by kernel_rfl) rfl #[.agg #[.int .i64 a0_0,.slice A0_1 l0_1.length c0_1],.agg #[.string a1_0,.string a1_1]] rfl zy ?_;(with_reducible refine (spec_FindField.calls kj4 a0_0 _ _ l0_1 a1_0 a1_1 t226 t227 _ ?side1 ?side2 A38.out).mono ?_);(case side1 => repeat (first|exact (Kd.C_below HR0_1.out HB.out)|(with_reducible refine Kd.C_alloc ?_ _)|(with_reducible refine Kd.C_drewN ?_ _)|(with_reducible refine Kd.C_drew ?_)));(case side2 => exact HC0_1.out);rintro e w47 ⟨rfl,hb⟩;refine ⟨_,rfl,?_⟩;replace HO_221001:=zm0_ (zm8_ (zr HO_221001) hb);replace BK213:=zm0_ (zm5_ (zb BK213) hb);replace BK214:=zm0_ (zm5_ (zb BK214) hb);replace BK215:=zm0_ (zm5_ (zb BK215) hb);replace BK220:=zm0_ (zm5_ (zb BK220) hb);replace HB:=zm0_ (zn8_ (zl4 HB GE213 GE214 GE215 GE220) hb);(try clear hb);(try clear hb2);(try clear hk);(try clear hi)))
    (try simp only [Act.put,lA_,lB_,lC_])
    go_cut [36] (fun v36 wc => ∃ (kq : Nat) (x36_38 : Bool),v36 = .bool x36_38 ∧ Aside0 (spec_PutField.j1 kq a2 t226 x36_38 a0_0 l0_1 a1_0 a1_1 t216 t217 = some (r1,r2,r3)) ∧ Aside0 (kq ≤ kj4) ∧ Aside0 (Kd.R k36 36 wc w.heap.size (fun k_ => k_ ≠ gb214) (.slice Ao18 t217.length co18) t217) ∧ Aside0 (wc.heap[gb213]? = some (.cells #[.int .i64 a0_0,(.slice A0_1 l0_1.length c0_1)] 32 (0,0))) ∧ Aside0 (wc.heap[gb214]? = some (.cells #[.string a1_0,.string a1_1] 36 (0,0))) ∧ Aside0 (wc.heap[gb215]? = some (.cells #[.int .i64 0,(.slice none 0 0)] 32 (0,0))) ∧ Aside0 (wc.heap[gb220]? = some (.cells #[.int .i64 t216,(.slice Ao18 t217.length co18)] 32 (0,0))) ∧ Aside0 (Below w.heap.size w wc))
    case first =>
     have H:=HC39.out
     clear HC39
     by_cases c48 : t227 = true
     ·
      subst c48
      rw [if_pos rfl] at H
      have H':=zm0_ H
      clear H
      go_wp2
      go_meet
      case rel => exact ⟨_,((a2 != 3)),zz,H',⟨by have:=HJ4.out;first|omega|exact Nat.le_refl _⟩,⟨zr HO_221001⟩,⟨zb BK213⟩,⟨zb BK214⟩,⟨zb BK215⟩,⟨zb BK220⟩,⟨zl4 HB GE213 GE214 GE215 GE220⟩⟩
     ·
      replace c48:=Bool.eq_false_iff.mpr c48
      subst c48
      rw [if_neg (show ¬ (false = true) by decide)] at H
      have H':=zm0_ H
      clear H
      go_wp2
      go_meet
      case rel => exact ⟨_,(false),zz,H',⟨by have:=HJ4.out;first|omega|exact Nat.le_refl _⟩,⟨zr HO_221001⟩,⟨zb BK213⟩,⟨zb BK214⟩,⟨zb BK215⟩,⟨zb BK220⟩,⟨zl4 HB GE213 GE214 GE215 GE220⟩⟩
    case rest =>
     clear HC39
     try clear c1
     try clear c2
     try clear p2
     try clear c3
     try clear c4
     try clear c7
     try clear c9
     try clear c10
     try clear c14
     try clear c15
     try clear c16
     try clear c20
     try clear c22
     try clear c23
     try clear c24
     try clear c26
     try clear c27
     try clear c28
     try clear c29
     try clear c32
     try clear c40
     try clear c41
     try clear c42
     try clear c44
     try clear c45
     try clear c48
     try clear hcz11_0
     try clear hcz11_1
     try clear hcz17_0
     try clear hcz17_1
     try clear hcz25_0
     try clear hcz25_1
     try clear hcz30_0
     try clear hcz30_1
     try clear hcz43_0
     try clear hcz43_1
     try clear hcz46_0
     try clear hcz46_1
     try clear hfz11_0
     try clear hfz11_1
     try clear hfz17_0
     try clear hfz17_1
     try clear hfz25_0
     try clear hfz25_1
     try clear hfz30_0
     try clear hfz30_1
     try clear hfz43_0
     try clear hfz43_1
     try clear hfz46_0
     try clear hfz46_1
     try clear p2
     obtain ⟨kq,x36_38,rfl,HA,HJ38,HO_221001,BK213,BK214,BK215,BK220,HB⟩:=hcut
     cases kq with
     | zero => exact absurd HA.out (by simp [spec_PutField.j1])
     | succ kj38 =>
      have H:=HA.out
      clear HA
      simp only [spec_PutField.j1] at H
      by_cases c49 : x36_38 = true
      ·
       subst c49
       rw [if_pos rfl] at H
       obtain ⟨y228,hy228⟩ : ∃ y_ : List Int,y_ = (([] : List Int)):=⟨_,rfl⟩
       replace H : ((spec_PutPrefix.f kj38 y228 7 128 t226).bind fun t231 => (some (t231,t216,t217))) = some (r1,r2,r3):=by first|(rw [hy228];with_reducible exact H)|(have H2_:=(Option.bind_some _ _).symm.trans H;rw [hy228];with_reducible exact H2_)|(have H2_:=(Option.bind_some _ _).symm.trans H;with_reducible exact H2_)|with_reducible exact H|(rw [hy228];exact H)|exact H
       have Ny228:=zm0_ hy228
       clear hy228
       replace H:=zq1_ H
       obtain ⟨t231,A500,H⟩:=H
       replace H : (some (t231,t216,t217)) = some (r1,r2,r3):=H
       have A50:=zm0_ A500
       clear A500
       simp only [Option.some.injEq,Prod.mk.injEq] at H
       obtain ⟨rfl,rfl,rfl⟩:=H
       try go_wp2
       replace HO_221001:=zm0_ (k3_ HO_221001.out)
       replace BK213:=zm0_ (k7_ BK213.out)
       replace BK214:=zm0_ (k7_ BK214.out)
       replace BK215:=zm0_ (k7_ BK215.out)
       replace BK220:=zm0_ (k7_ BK220.out)
       replace HB:=zm0_ (zm4_ HB.out)
       refine start_ (n:=6) (S:=fun w' => w'.cell? ⟨gb220,0,none⟩ = some (.int .i64 t216) ∧ w'.cell? ⟨gb220,1,none⟩ = some (.slice Ao18 t217.length co18)) (ds:=[]) #[Z,Z,Z,Z,Z,Z] (by kernel_rfl) rfl rfl ⟨(zm6_ BK220.out 0).trans rfl,(zm6_ BK220.out 1).trans rfl⟩ (fun hHeld => ?_)
       generalize wc.drew = w51 at HO_221001 BK213 BK214 BK215 BK220 HB hHeld ⊢
       refine pure_ (i:=1) (N:=some 38) (v:=?_) (a':=?_) #[Z,Y,Z,Z,Z,Z] rfl rfl (by kernel_rfl) (fun _ _ _ h => h) (Or.inl ⟨by rfl,?_⟩) ?_ ?_
       rotate_left
       ·
        intro w'
        go_simp
        with_reducible rfl
       rotate_left
       ·
        simp only [Act.put,lA_,lB_,lC_,i64_w,i32_w]
        rfl
       refine take_ (i:=3) (N:=some 40) (v:=?_) (a':=?_) #[Z,Y,Z,Y,Z,Z] rfl rfl (by kernel_rfl) (fun _ _ _ h => h) (Or.inl ⟨by rfl,?_⟩) hHeld ?_ ?_
       rotate_left
       ·
        rintro w' ⟨s0,s1⟩
        go_simp
        with_reducible rfl
       rotate_left
       ·
        simp only [Act.put,lA_,lB_,lC_,i64_w,i32_w]
        rfl
       refine one_ (i:=0) (N:=some 37) #[Y,Y,Z,Y,Z,Z] rfl rfl (by kernel_rfl) (by decide) (fun K hK => ?_)
       refine Kd.R_lit_step (Kd.int .u8) _ 5 ?hg (N:=37) ?hd (xs:=([] : List Int)) (inner:=[]) (ok:=fun _ => True) (okp:=fun _ => True) ?hr ?hp (fun _ hk => hk) trivial (Below.refl _ _) (Nat.le_refl _) (by simp) ?_;(case hd => rfl);(case hg => rfl);(case hr => first|(go_simp;done)|(go_simp;rfl));(case hp => exact (Reps.none _ _))
       intro v229 w52 ho53 hb hg_ hnew_
       clear hg_ hnew_
       (first|rw [← Ny228.out] at ho53|(simp only [Int.reduceToNat] at ho53;rw [← Ny228.out] at ho53))
       replace HO_221001:=zm0_ (zm8_ (zr HO_221001) hb)
       have HO230:=zm0_ (zo1_ ho53 (zn9_ (zl4 HB GE213 GE214 GE215 GE220)))
       replace BK213:=zm0_ (zm5_ (zb BK213) hb)
       replace BK214:=zm0_ (zm5_ (zb BK214) hb)
       replace BK215:=zm0_ (zm5_ (zb BK215) hb)
       replace BK220:=zm0_ (zm5_ (zb BK220) hb)
       replace HB:=zm0_ (zn8_ (zl4 HB GE213 GE214 GE215 GE220) hb)
       clear hb ho53
       obtain ⟨Ao54,co54,eo54⟩:=Kd.R_slice HO230.out
       (first|subst eo54|(injection eo54 with f1_ f2_ f3_;have f4_:=f1_.symm;have f5_:=f3_.symm;clear f1_ f2_ f3_;subst f4_;subst f5_))
       refine hK.out _ _ ⟨(zm6_ BK220.out 0).trans rfl,(zm6_ BK220.out 1).trans rfl⟩ (fun hHeld => ?_)
       clear hK K
       refine norm_ (a':=?_) ?_ ?_
       rotate_left
       ·
        show Act.put _ (some 37) _ = _
        simp only [Act.put,lA_,lB_,lC_,i64_w,i32_w]
        rfl
       refine one_ (i:=2) (N:=some 39) #[Y,Y,Y,Y,Z,Z] rfl rfl (by kernel_rfl) (by decide) (fun K hK => ?_)
       refine goes_ Tryz.func27 (by kernel_rfl) rfl #[.slice Ao54 y228.length co54,.int .i64 7,.int .i64 128,.int .i64 t226] (by rfl) rfl rfl zy ?_
       with_reducible refine (spec_PutPrefix.calls kj38 _ _ y228 7 128 t226 t231 _ ?side1 ?side2 A50.out).mono ?_
       (case side1 => repeat (first|exact (Kd.R_reads' HO230.out).2.2|(with_reducible refine Kd.C_alloc ?_ _)|(with_reducible refine Kd.C_drewN ?_ _)|(with_reducible refine Kd.C_drew ?_)))
       (case side2 => exact (Kd.R_reads' HO230.out).2.1)
       rintro e w55 ⟨v232,rfl,ho0,hb⟩
       refine ⟨_,rfl,?_⟩
       replace HO_221001:=zm0_ (zm8_ (zr HO_221001) hb)
       have HO233:=zm0_ (zo1_ (Kd.R_new' ho0 (Kd.R_lt (zr HO230))) (zn9_ (zl4 HB GE213 GE214 GE215 GE220)))
       replace HO230:=zm0_ (Kd.R_elder' (zr HO230) (Kd.R_base ho0) hb)
       replace BK213:=zm0_ (zm5_ (zb BK213) hb)
       replace BK214:=zm0_ (zm5_ (zb BK214) hb)
       replace BK215:=zm0_ (zm5_ (zb BK215) hb)
       replace BK220:=zm0_ (zm5_ (zb BK220) hb)
       replace HB:=zm0_ (zn8_ (zl4 HB GE213 GE214 GE215 GE220) hb)
       (try clear hb)
       (try clear hb2)
       (try clear hk)
       (try clear hi)
       (try clear ho0)
       refine hK.out _ _ ⟨(zm6_ BK220.out 0).trans rfl,(zm6_ BK220.out 1).trans rfl⟩ (fun hHeld => ?_)
       clear hK K
       refine norm_ (a':=?_) ?_ ?_
       rotate_left
       ·
        show Act.put _ (some 39) _ = _
        simp only [Act.put,lA_,lB_,lC_,i64_w,i32_w]
        rfl
       refine pure_ (i:=4) (N:=some 6) (v:=?_) (a':=?_) #[Y,Y,Y,Y,Y,Z] rfl rfl (by kernel_rfl) (fun _ _ _ h => h) (Or.inl ⟨by rfl,?_⟩) ?_ ?_
       rotate_left
       ·
        intro w'
        go_simp
        with_reducible rfl
       rotate_left
       ·
        simp only [Act.put,lA_,lB_,lC_,i64_w,i32_w]
        rfl
       refine one_ (i:=5) (N:=none) #[Y,Y,Y,Y,Y,Y] rfl rfl (by kernel_rfl) (by decide) (fun K hK => ?_)
       have hs56 : w55.cell? ⟨gb215,0,none⟩ = some (.int .i64 0):=(zm6_ BK215.out 0).trans rfl
       have hfs56:=zm7_ BK215.out 0
       have hns56_0:=NB213_215.out
       have hns56_1:=NB214_215.out
       have hns56_3:=NB220_215.out
       have hms56_0:=NB215_213.out
       have hms56_1:=NB215_214.out
       have hms56_3:=NB215_220.out
       have hs57 : w55.cell? ⟨gb215,1,none⟩ = some (.slice none 0 0):=(zm6_ BK215.out 1).trans rfl
       have hfs57:=zm7_ BK215.out 1
       have hns57_0:=NB213_215.out
       have hns57_1:=NB214_215.out
       have hns57_3:=NB220_215.out
       have hms57_0:=NB215_213.out
       have hms57_1:=NB215_214.out
       have hms57_3:=NB215_220.out
       refine skip_ (w1:=?_) (by rfl) rfl ?_ ?_
       rotate_left
       ·
        go_simp
        rfl
       refine hK.out _ _ ⟨((cell_far (p:=⟨gb215,_,none⟩) NB220_215.out _).trans (((cell_far (p:=⟨gb215,_,none⟩) NB220_215.out _).trans (hHeld.1)))),((cell_far (p:=⟨gb215,_,none⟩) NB220_215.out _).trans (((cell_far (p:=⟨gb215,_,none⟩) NB220_215.out _).trans (hHeld.2))))⟩ (fun hHeld => ?_)
       clear hK K
       refine done_ (by kernel_rfl) ?_
       try go_wp2
       refine bodyPost_ret (results_tc rfl _ _ gb215 32 #[.int .i64 t216,.slice Ao18 t217.length co18] (0,0) _ rfl (by (with_reducible repeat (first|refine k6_ ?_ _|refine k7_ ?_|refine k5_ ?_ _));refine blk_put (cs:=#[.int .i64 t216,.slice none 0 0]) ?_ 1 _ rfl;(with_reducible repeat (first|refine k6_ ?_ _|refine k7_ ?_|refine k5_ ?_ _));refine blk_put (cs:=#[.int .i64 0,.slice none 0 0]) ?_ 0 _ rfl;(with_reducible repeat (first|refine k6_ ?_ _|refine k7_ ?_|refine k5_ ?_ _));exact BK215.out) Tryz.underlying32 rfl (by kernel_rfl)) rfl ?_
       exact ⟨_,_,ze,by (with_reducible repeat (first|apply k1_|apply k2_|apply k3_));exact zo2_ (k4_ (p:=⟨gb215,1,none⟩) (k4_ (p:=⟨gb215,0,none⟩) (Kd.R_types HO233.out BK215.out (by decide)) (fun _ hk => hk.2) (.int .i64 t216)) (fun _ hk => hk.2) (.slice Ao18 t217.length co18)) (fun _ hk => trivial),by (with_reducible repeat (first|apply k1_|apply k2_|apply k3_));exact zo2_ (k4_ (p:=⟨gb215,1,none⟩) (k4_ (p:=⟨gb215,0,none⟩) (Kd.R_types HO_221001.out BK215.out (by decide)) (fun _ hk => hk.2) (.int .i64 t216)) (fun _ hk => hk.2) (.slice Ao18 t217.length co18)) (fun _ hk => trivial),by repeat (first|(with_reducible first|exact HB.out|apply zm3_|apply zm2_|apply zm4_|refine zm1_ ?_ GE213.out|refine zm1_ ?_ GE214.out|refine zm1_ ?_ GE215.out|refine zm1_ ?_ GE220.out)|exact HB.out)⟩
      ·
       replace c49:=Bool.eq_false_iff.mpr c49
       subst c49
       rw [if_neg (show ¬ (false = true) by decide)] at H
       replace H:=zq1_ H
       obtain ⟨⟨t234,t235⟩,A580,H⟩:=H
       replace H : ((spec_PutPrefix.f kj38 (([] : List Int)) t234 t235 t226).bind fun t239 => (if t226 = 0 then ((spec_PutString.f kj38 t239 a1_0).bind fun t242 => (spec_PutField.j2 kj38 a2 t242 a0_0 l0_1 a1_0 a1_1 t216 t217)) else (spec_PutField.j2 kj38 a2 t239 a0_0 l0_1 a1_0 a1_1 t216 t217))) = some (r1,r2,r3):=H
       have A58:=zm0_ A580
       clear A580
       obtain ⟨y236,hy236⟩ : ∃ y_ : List Int,y_ = (([] : List Int)):=⟨_,rfl⟩
       replace H : ((spec_PutPrefix.f kj38 y236 t234 t235 t226).bind fun t239 => (if t226 = 0 then ((spec_PutString.f kj38 t239 a1_0).bind fun t242 => (spec_PutField.j2 kj38 a2 t242 a0_0 l0_1 a1_0 a1_1 t216 t217)) else (spec_PutField.j2 kj38 a2 t239 a0_0 l0_1 a1_0 a1_1 t216 t217))) = some (r1,r2,r3):=by first|(rw [hy236];with_reducible exact H)|(have H2_:=(Option.bind_some _ _).symm.trans H;rw [hy236];with_reducible exact H2_)|(have H2_:=(Option.bind_some _ _).symm.trans H;with_reducible exact H2_)|with_reducible exact H|(rw [hy236];exact H)|exact H
       have Ny236:=zm0_ hy236
       clear hy236
       replace H:=zq1_ H
       obtain ⟨t239,A590,H⟩:=H
       replace H : (if t226 = 0 then ((spec_PutString.f kj38 t239 a1_0).bind fun t242 => (spec_PutField.j2 kj38 a2 t242 a0_0 l0_1 a1_0 a1_1 t216 t217)) else (spec_PutField.j2 kj38 a2 t239 a0_0 l0_1 a1_0 a1_1 t216 t217)) = some (r1,r2,r3):=H
       have A59:=zm0_ A590
       clear A590
       have HC60:=zm0_ H
       clear H
       go_upto_if 52 with (first|((with_reducible refine gate_callee (f:=28) rfl ?_);refine goesL_ (some 43) rfl rfl Tryz.func28 (by kernel_rfl) rfl #[.int .i64 a2] rfl zy ?_;(with_reducible refine (spec_l5Mode.calls a2 t234 t235 _ A58.out).mono ?_);rintro e w' ⟨rfl,⟨nd,rfl⟩⟩;refine ⟨_,rfl,?_⟩)|((with_reducible refine gate_dst (N:=46) rfl ?_);refine Kd.R_lit (Kd.int .u8) _ 5 ?hg (N:=46) ?hd (xs:=([] : List Int)) (inner:=[]) (ok:=fun _ => True) (okp:=fun _ => True) ?hr ?hp (fun _ hk => hk) trivial (Below.refl _ _) (Nat.le_refl _) (by simp) ?_;(case hd => rfl);(case hg => rfl);(case hr => first|(go_simp;done)|(go_simp;rfl));(case hp => exact (Reps.none _ _));intro v237 w61 ho62 hb hg_ hnew_;clear hg_ hnew_;(first|rw [← Ny236.out] at ho62|(simp only [Int.reduceToNat] at ho62;rw [← Ny236.out] at ho62));replace HO_221001:=zm0_ (zm8_ (zr HO_221001) hb);have HO238:=zm0_ (zo1_ ho62 (zn9_ (zl4 HB GE213 GE214 GE215 GE220)));replace BK213:=zm0_ (zm5_ (zb BK213) hb);replace BK214:=zm0_ (zm5_ (zb BK214) hb);replace BK215:=zm0_ (zm5_ (zb BK215) hb);replace BK220:=zm0_ (zm5_ (zb BK220) hb);replace HB:=zm0_ (zn8_ (zl4 HB GE213 GE214 GE215 GE220) hb);clear hb ho62;obtain ⟨Ao63,co63,eo63⟩:=Kd.R_slice HO238.out;subst eo63)|((with_reducible refine gate_callee (f:=27) rfl ?_);refine goesL_ (some 50) rfl rfl Tryz.func27 (by kernel_rfl) rfl #[.slice Ao63 y236.length co63,.int .i64 t234,.int .i64 t235,.int .i64 t226] rfl zy ?_;(with_reducible refine (spec_PutPrefix.calls kj38 _ _ y236 t234 t235 t226 t239 _ ?side1 ?side2 A59.out).mono ?_);(case side1 => repeat (first|exact (Kd.R_reads' HO238.out).2.2|(with_reducible refine Kd.C_alloc ?_ _)|(with_reducible refine Kd.C_drewN ?_ _)|(with_reducible refine Kd.C_drew ?_)));(case side2 => exact (Kd.R_reads' HO238.out).2.1);rintro e w64 ⟨v240,rfl,ho0,hb⟩;refine ⟨_,rfl,?_⟩;replace HO_221001:=zm0_ (zm8_ (zr HO_221001) hb);have HO241:=zm0_ (zo1_ (Kd.R_new' ho0 (Kd.R_lt (zr HO238))) (zn9_ (zl4 HB GE213 GE214 GE215 GE220)));replace HO238:=zm0_ (Kd.R_elder' (zr HO238) (Kd.R_base ho0) hb);replace BK213:=zm0_ (zm5_ (zb BK213) hb);replace BK214:=zm0_ (zm5_ (zb BK214) hb);replace BK215:=zm0_ (zm5_ (zb BK215) hb);replace BK220:=zm0_ (zm5_ (zb BK220) hb);replace HB:=zm0_ (zn8_ (zl4 HB GE213 GE214 GE215 GE220) hb);(try clear hb);(try clear hb2);(try clear hk);(try clear hi);(try clear ho0)))
       (try simp only [Act.put,lA_,lB_,lC_])
       go_cut [13] (fun v13 wc => ∃ (kq : Nat) (x13_59 : List Int),Aside0 (spec_PutField.j2 kq a2 x13_59 a0_0 l0_1 a1_0 a1_1 t216 t217 = some (r1,r2,r3)) ∧ Aside0 (kq ≤ kj38) ∧ Aside0 (Kd.R (Kd.int .u8) 5 wc w.heap.size (fun _ => True) v13 x13_59) ∧ Aside0 (Kd.R k36 36 wc w.heap.size (fun k_ => k_ ≠ gb214) (.slice Ao18 t217.length co18) t217) ∧ Aside0 (wc.heap[gb213]? = some (.cells #[.int .i64 a0_0,(.slice A0_1 l0_1.length c0_1)] 32 (0,0))) ∧ Aside0 (wc.heap[gb214]? = some (.cells #[.string a1_0,.string a1_1] 36 (0,0))) ∧ Aside0 (wc.heap[gb215]? = some (.cells #[.int .i64 0,(.slice none 0 0)] 32 (0,0))) ∧ Aside0 (wc.heap[gb220]? = some (.cells #[.int .i64 t216,(.slice Ao18 t217.length co18)] 32 (0,0))) ∧ Aside0 (Below w.heap.size w wc))
       case first =>
        have H:=HC60.out
        clear HC60
        by_cases c65 : t226 = 0
        ·
         rw [if_pos c65] at H
         have c65b0 : (t226 == 0) = true:=beq_iff_eq.mpr c65
         have c65b1 : (t226 != 0) = false:=bne_eq_false_iff_eq.mpr c65
         clear c65
         (first|rw [c65b0]|(simp only [i64_w,i32_w];rw [c65b0])|rw [c65b1]|skip)
         replace H:=zq1_ H
         obtain ⟨t242,A660,H⟩:=H
         replace H : (spec_PutField.j2 kj38 a2 t242 a0_0 l0_1 a1_0 a1_1 t216 t217) = some (r1,r2,r3):=H
         have A66:=zm0_ A660
         clear A660
         have H':=zm0_ H
         clear H
         have hnb67:=NB214_213.out
         have hnc67:=NB213_214.out
         have hnb68:=NB214_215.out
         have hnc68:=NB215_214.out
         have hnb69:=NB214_220.out
         have hnc69:=NB220_214.out
         have hcz70_0 : w64.cell? ⟨gb214,0,none⟩ = some (.string a1_0):=(zm6_ BK214.out 0).trans rfl
         have hcz70_1 : w64.cell? ⟨gb214,1,none⟩ = some (.string a1_1):=(zm6_ BK214.out 1).trans rfl
         have hfz70_0:=zm7_ BK214.out 0
         have hfz70_1:=zm7_ BK214.out 1
         obtain ⟨Ao71,co71,eo71⟩:=Kd.R_slice HO241.out
         subst eo71
         go_wp2_with (first|((with_reducible refine gate_callee (f:=29) rfl ?_);refine goesL_ (some 56) rfl rfl Tryz.func29 (by kernel_rfl) rfl #[.slice Ao71 t239.length co71,.string a1_0] rfl zy ?_;(with_reducible refine (spec_PutString.calls kj38 _ _ t239 a1_0 t242 _ ?side1 ?side2 A66.out).mono ?_);(case side1 => repeat (first|exact (Kd.R_reads' HO241.out).2.2|(with_reducible refine Kd.C_alloc ?_ _)|(with_reducible refine Kd.C_drewN ?_ _)|(with_reducible refine Kd.C_drew ?_)));(case side2 => exact (Kd.R_reads' HO241.out).2.1);rintro e w72 ⟨v243,rfl,ho0,hb⟩;refine ⟨_,rfl,?_⟩;replace HO_221001:=zm0_ (zm8_ (zr HO_221001) hb);have HO244:=zm0_ (zo1_ (Kd.R_new' (Kd.R_new' ho0 (Kd.R_lt (zr HO238))) (Kd.R_lt (zr HO241))) (zn9_ (zl4 HB GE213 GE214 GE215 GE220)));replace HO238:=zm0_ (Kd.R_elder' (zr HO238) (Kd.R_base ho0) hb);replace HO241:=zm0_ (Kd.R_elder' (zr HO241) (Kd.R_base ho0) hb);replace BK213:=zm0_ (zm5_ (zb BK213) hb);replace BK214:=zm0_ (zm5_ (zb BK214) hb);replace BK215:=zm0_ (zm5_ (zb BK215) hb);replace BK220:=zm0_ (zm5_ (zb BK220) hb);replace HB:=zm0_ (zn8_ (zl4 HB GE213 GE214 GE215 GE220) hb);(try clear hb);(try clear hb2);(try clear hk);(try clear hi);(try clear ho0)))
         go_meet
         case rel => exact ⟨_,(t242),H',⟨by have:=HJ4.out;have:=HJ38.out;first|omega|exact Nat.le_refl _⟩,⟨by (with_reducible repeat (first|apply k1_|apply k2_|apply k3_));exact zo2_ HO244.out (fun _ hk => trivial)⟩,⟨zr HO_221001⟩,⟨zb BK213⟩,⟨zb BK214⟩,⟨zb BK215⟩,⟨zb BK220⟩,⟨zl4 HB GE213 GE214 GE215 GE220⟩⟩
        ·
         rw [if_neg c65] at H
         have c65b0 : (t226 == 0) = false:=beq_eq_false_iff_ne.mpr c65
         have c65b1 : (t226 != 0) = true:=bne_iff_ne.mpr c65
         (first|rw [c65b0]|(simp only [i64_w,i32_w];rw [c65b0])|rw [c65b1]|skip)
         have H':=zm0_ H
         clear H
         go_wp2
         go_meet
         case rel => exact ⟨_,(t239),H',⟨by have:=HJ4.out;have:=HJ38.out;first|omega|exact Nat.le_refl _⟩,⟨by (with_reducible repeat (first|apply k1_|apply k2_|apply k3_));exact zo2_ HO241.out (fun _ hk => trivial)⟩,⟨zr HO_221001⟩,⟨zb BK213⟩,⟨zb BK214⟩,⟨zb BK215⟩,⟨zb BK220⟩,⟨zl4 HB GE213 GE214 GE215 GE220⟩⟩
       case rest =>
        clear HC60
        try clear c1
        try clear c2
        try clear p2
        try clear c3
        try clear c4
        try clear c6
        try clear c7
        try clear c9
        try clear c10
        try clear c14
        try clear c15
        try clear c16
        try clear c20
        try clear c22
        try clear c23
        try clear c24
        try clear c26
        try clear c27
        try clear c28
        try clear c29
        try clear c32
        try clear c40
        try clear c41
        try clear c42
        try clear c44
        try clear c45
        try clear c48
        try clear c49
        try clear c65
        try clear c65b0
        try clear c65b1
        try clear c67
        try clear c68
        try clear c69
        try clear hcz11_0
        try clear hcz11_1
        try clear hcz17_0
        try clear hcz17_1
        try clear hcz25_0
        try clear hcz25_1
        try clear hcz30_0
        try clear hcz30_1
        try clear hcz43_0
        try clear hcz43_1
        try clear hcz46_0
        try clear hcz46_1
        try clear hcz70_0
        try clear hcz70_1
        try clear hfz11_0
        try clear hfz11_1
        try clear hfz17_0
        try clear hfz17_1
        try clear hfz25_0
        try clear hfz25_1
        try clear hfz30_0
        try clear hfz30_1
        try clear hfz43_0
        try clear hfz43_1
        try clear hfz46_0
        try clear hfz46_1
        try clear hfz70_0
        try clear hfz70_1
        try clear p2
        obtain ⟨kq,x13_59,HA,HJ59,HO_13,HO_221001,BK213,BK214,BK215,BK220,HB⟩:=hcut
        cases kq with
        | zero => exact absurd HA.out (by simp [spec_PutField.j2])
        | succ kj59 =>
         have H:=HA.out
         clear HA
         simp only [spec_PutField.j2] at H
         replace H:=zq1_ H
         obtain ⟨t245,A730,H⟩:=H
         replace H : (if a2 = 1 then ((spec_l4Add.f kj59 a0_0 l0_1 a1_0 a1_1).bind fun bt248 => (some (t245,bt248.1,bt248.2))) else (some (t245,t216,t217))) = some (r1,r2,r3):=H
         have A73:=zm0_ A730
         clear A730
         by_cases c74 : a2 = 1
         ·
          rw [if_pos c74] at H
          have c74b0 : (a2 == 1) = true:=beq_iff_eq.mpr c74
          have c74b1 : (a2 != 1) = false:=bne_eq_false_iff_eq.mpr c74
          clear c74
          replace H:=zq1_ H
          obtain ⟨⟨t248,t249⟩,A750,H⟩:=H
          replace H : (some (t245,t248,t249)) = some (r1,r2,r3):=H
          have A75:=zm0_ A750
          clear A750
          simp only [Option.some.injEq,Prod.mk.injEq] at H
          obtain ⟨rfl,rfl,rfl⟩:=H
          have hnb76:=NB214_213.out
          have hnc76:=NB213_214.out
          have hnb77:=NB214_215.out
          have hnc77:=NB215_214.out
          have hnb78:=NB214_220.out
          have hnc78:=NB220_214.out
          have hcz79_0 : wc.cell? ⟨gb214,0,none⟩ = some (.string a1_0):=(zm6_ BK214.out 0).trans rfl
          have hcz79_1 : wc.cell? ⟨gb214,1,none⟩ = some (.string a1_1):=(zm6_ BK214.out 1).trans rfl
          have hfz79_0:=zm7_ BK214.out 0
          have hfz79_1:=zm7_ BK214.out 1
          obtain ⟨Ao80,co80,eo80⟩:=Kd.R_slice HO_13.out
          subst eo80
          go_wp2_with (first|((with_reducible refine gate_callee (f:=29) rfl ?_);refine goesL_ (some 60) rfl rfl Tryz.func29 (by kernel_rfl) rfl #[.slice Ao80 x13_59.length co80,.string a1_1] rfl zy ?_;(with_reducible refine (spec_PutString.calls kj59 _ _ x13_59 a1_1 t245 _ ?side1 ?side2 A73.out).mono ?_);(case side1 => repeat (first|exact (Kd.R_reads' HO_13.out).2.2|(with_reducible refine Kd.C_alloc ?_ _)|(with_reducible refine Kd.C_drewN ?_ _)|(with_reducible refine Kd.C_drew ?_)));(case side2 => exact (Kd.R_reads' HO_13.out).2.1);rintro e w81 ⟨v246,rfl,ho0,hb⟩;refine ⟨_,rfl,?_⟩;replace HO_221001:=zm0_ (zm8_ (zr HO_221001) hb);have HO247:=zm0_ (zo1_ (Kd.R_new' ho0 (Kd.R_lt (zr HO_13))) (zn9_ (zl4 HB GE213 GE214 GE215 GE220)));replace HO_13:=zm0_ (Kd.R_elder' (zr HO_13) (Kd.R_base ho0) hb);replace BK213:=zm0_ (zm5_ (zb BK213) hb);replace BK214:=zm0_ (zm5_ (zb BK214) hb);replace BK215:=zm0_ (zm5_ (zb BK215) hb);replace BK220:=zm0_ (zm5_ (zb BK220) hb);replace HB:=zm0_ (zn8_ (zl4 HB GE213 GE214 GE215 GE220) hb);(try clear hb);(try clear hb2);(try clear hk);(try clear hi);(try clear ho0);have hnb82:=NB213_215.out;have hnc82:=NB215_213.out;have hnb83:=NB213_220.out;have hnc83:=NB220_213.out;have hcz84_0 : w81.cell? ⟨gb213,0,none⟩ = some (.int .i64 a0_0):=(zm6_ BK213.out 0).trans rfl;have hcz84_1 : w81.cell? ⟨gb213,1,none⟩ = some (.slice A0_1 l0_1.length c0_1):=(zm6_ BK213.out 1).trans rfl;have hfz84_0:=zm7_ BK213.out 0;have hfz84_1:=zm7_ BK213.out 1;have hcz85_0 : w81.cell? ⟨gb214,0,none⟩ = some (.string a1_0):=(zm6_ BK214.out 0).trans rfl;have hcz85_1 : w81.cell? ⟨gb214,1,none⟩ = some (.string a1_1):=(zm6_ BK214.out 1).trans rfl;have hfz85_0:=zm7_ BK214.out 0;have hfz85_1:=zm7_ BK214.out 1)|((with_reducible refine gate_callee (f:=30) rfl ?_);refine goesL_ (some 66) rfl rfl Tryz.func30 (by kernel_rfl) rfl #[.agg #[.int .i64 a0_0,.slice A0_1 l0_1.length c0_1],.agg #[.string a1_0,.string a1_1]] rfl zy ?_;(with_reducible refine (spec_l4Add.calls kj59 a0_0 _ _ l0_1 a1_0 a1_1 t248 t249 _ ?side1 ?side2 A75.out).mono ?_);(case side1 => repeat (first|exact (Kd.C_below HR0_1.out HB.out)|(with_reducible refine Kd.C_alloc ?_ _)|(with_reducible refine Kd.C_drewN ?_ _)|(with_reducible refine Kd.C_drew ?_)));(case side2 => exact HC0_1.out);rintro e w86 ⟨v250,rfl,ho0,hb⟩;refine ⟨_,rfl,?_⟩;replace HO_13:=zm0_ (zm8_ (zr HO_13) hb);replace HO247:=zm0_ (zm8_ (zr HO247) hb);have HO251:=zm0_ (zo1_ (Kd.R_newB (Kd.R_new' ho0 (Kd.R_lt (zr HO_221001))) (g:=gb214) (o:=.cells #[.string a1_0,.string a1_1] 36 (0,0)) (zb BK214)) (zn9_ (zl4 HB GE213 GE214 GE215 GE220)));replace HO_221001:=zm0_ (Kd.R_elder' (zr HO_221001) (Kd.R_base ho0) hb);replace BK213:=zm0_ (zm5_ (zb BK213) hb);replace BK214:=zm0_ (zm5_ (zb BK214) hb);replace BK215:=zm0_ (zm5_ (zb BK215) hb);replace BK220:=zm0_ (zm5_ (zb BK220) hb);replace HB:=zm0_ (zn8_ (zl4 HB GE213 GE214 GE215 GE220) hb);(try clear hb);(try clear hb2);(try clear hk);(try clear hi);(try clear ho0);have hnb87:=NB215_220.out;have hnc87:=NB220_215.out;have hcz88_0 : w86.cell? ⟨gb215,0,none⟩ = some (.int .i64 0):=(zm6_ BK215.out 0).trans rfl;have hcz88_1 : w86.cell? ⟨gb215,1,none⟩ = some (.slice none 0 0):=(zm6_ BK215.out 1).trans rfl;have hfz88_0:=zm7_ BK215.out 0;have hfz88_1:=zm7_ BK215.out 1;obtain ⟨Ao89,co89,eo89⟩:=Kd.R_slice HO251.out;subst eo89))
          refine bodyPost_ret (results_tc rfl _ _ gb215 32 #[.int .i64 t248,.slice Ao89 t249.length co89] (0,0) _ rfl (by (with_reducible repeat (first|refine k6_ ?_ _|refine k7_ ?_|refine k5_ ?_ _));refine blk_put (cs:=#[.int .i64 t248,.slice none 0 0]) ?_ 1 _ rfl;(with_reducible repeat (first|refine k6_ ?_ _|refine k7_ ?_|refine k5_ ?_ _));refine blk_put (cs:=#[.int .i64 0,.slice none 0 0]) ?_ 0 _ rfl;(with_reducible repeat (first|refine k6_ ?_ _|refine k7_ ?_|refine k5_ ?_ _));exact BK215.out) Tryz.underlying32 rfl (by kernel_rfl)) rfl ?_
          exact ⟨_,_,ze,by (with_reducible repeat (first|apply k1_|apply k2_|apply k3_));exact zo2_ (k4_ (p:=⟨gb215,1,none⟩) (k4_ (p:=⟨gb215,0,none⟩) (Kd.R_types HO247.out BK215.out (by decide)) (fun _ hk => hk.2) (.int .i64 t248)) (fun _ hk => hk.2) (.slice Ao89 t249.length co89)) (fun _ hk => trivial),by (with_reducible repeat (first|apply k1_|apply k2_|apply k3_));exact zo2_ (k4_ (p:=⟨gb215,1,none⟩) (k4_ (p:=⟨gb215,0,none⟩) (Kd.R_types HO251.out BK215.out (by decide)) (fun _ hk => hk.2) (.int .i64 t248)) (fun _ hk => hk.2) (.slice Ao89 t249.length co89)) (fun _ hk => trivial),by repeat (first|(with_reducible first|exact HB.out|apply zm3_|apply zm2_|apply zm4_|refine zm1_ ?_ GE213.out|refine zm1_ ?_ GE214.out|refine zm1_ ?_ GE215.out|refine zm1_ ?_ GE220.out)|exact HB.out)⟩
         ·
          rw [if_neg c74] at H
          have c74b0 : (a2 == 1) = false:=beq_eq_false_iff_ne.mpr c74
          have c74b1 : (a2 != 1) = true:=bne_iff_ne.mpr c74
          simp only [Option.some.injEq,Prod.mk.injEq] at H
          obtain ⟨rfl,rfl,rfl⟩:=H
          have hnb90:=NB214_213.out
          have hnc90:=NB213_214.out
          have hnb91:=NB214_215.out
          have hnc91:=NB215_214.out
          have hnb92:=NB214_220.out
          have hnc92:=NB220_214.out
          have hcz93_0 : wc.cell? ⟨gb214,0,none⟩ = some (.string a1_0):=(zm6_ BK214.out 0).trans rfl
          have hcz93_1 : wc.cell? ⟨gb214,1,none⟩ = some (.string a1_1):=(zm6_ BK214.out 1).trans rfl
          have hfz93_0:=zm7_ BK214.out 0
          have hfz93_1:=zm7_ BK214.out 1
          obtain ⟨Ao94,co94,eo94⟩:=Kd.R_slice HO_13.out
          subst eo94
          try go_wp2_with (first|((with_reducible refine gate_callee (f:=29) rfl ?_);refine goesL_ (some 60) rfl rfl Tryz.func29 (by kernel_rfl) rfl #[.slice Ao94 x13_59.length co94,.string a1_1] rfl zy ?_;(with_reducible refine (spec_PutString.calls kj59 _ _ x13_59 a1_1 t245 _ ?side1 ?side2 A73.out).mono ?_);(case side1 => repeat (first|exact (Kd.R_reads' HO_13.out).2.2|(with_reducible refine Kd.C_alloc ?_ _)|(with_reducible refine Kd.C_drewN ?_ _)|(with_reducible refine Kd.C_drew ?_)));(case side2 => exact (Kd.R_reads' HO_13.out).2.1);rintro e w95 ⟨v246,rfl,ho0,hb⟩;refine ⟨_,rfl,?_⟩;replace HO_221001:=zm0_ (zm8_ (zr HO_221001) hb);have HO247:=zm0_ (zo1_ (Kd.R_new' ho0 (Kd.R_lt (zr HO_13))) (zn9_ (zl4 HB GE213 GE214 GE215 GE220)));replace HO_13:=zm0_ (Kd.R_elder' (zr HO_13) (Kd.R_base ho0) hb);replace BK213:=zm0_ (zm5_ (zb BK213) hb);replace BK214:=zm0_ (zm5_ (zb BK214) hb);replace BK215:=zm0_ (zm5_ (zb BK215) hb);replace BK220:=zm0_ (zm5_ (zb BK220) hb);replace HB:=zm0_ (zn8_ (zl4 HB GE213 GE214 GE215 GE220) hb);(try clear hb);(try clear hb2);(try clear hk);(try clear hi);(try clear ho0)))
          replace HO_13:=zm0_ (k3_ HO_13.out)
          replace HO_221001:=zm0_ (k3_ HO_221001.out)
          replace HO247:=zm0_ (k3_ HO247.out)
          replace BK213:=zm0_ (k7_ BK213.out)
          replace BK214:=zm0_ (k7_ BK214.out)
          replace BK215:=zm0_ (k7_ BK215.out)
          replace BK220:=zm0_ (k7_ BK220.out)
          replace HB:=zm0_ (zm4_ HB.out)
          refine start_ (n:=4) (S:=fun w' => w'.cell? ⟨gb220,0,none⟩ = some (.int .i64 t216) ∧ w'.cell? ⟨gb220,1,none⟩ = some (.slice Ao18 t217.length co18)) (ds:=[]) #[Z,Z,Z,Z] (by kernel_rfl) rfl rfl ⟨(zm6_ BK220.out 0).trans rfl,(zm6_ BK220.out 1).trans rfl⟩ (fun hHeld => ?_)
          generalize w95.drew = w96 at HO_13 HO_221001 HO247 BK213 BK214 BK215 BK220 HB hHeld ⊢
          refine pure_ (i:=0) (N:=some 67) (v:=?_) (a':=?_) #[Y,Z,Z,Z] rfl rfl (by kernel_rfl) (fun _ _ _ h => h) (Or.inl ⟨by rfl,?_⟩) ?_ ?_
          rotate_left
          ·
           intro w'
           go_simp
           with_reducible rfl
          rotate_left
          ·
           simp only [Act.put,lA_,lB_,lC_,i64_w,i32_w]
           rfl
          refine pure_ (i:=2) (N:=some 6) (v:=?_) (a':=?_) #[Y,Z,Y,Z] rfl rfl (by kernel_rfl) (fun _ _ _ h => h) (Or.inl ⟨by rfl,?_⟩) ?_ ?_
          rotate_left
          ·
           intro w'
           go_simp
           with_reducible rfl
          rotate_left
          ·
           simp only [Act.put,lA_,lB_,lC_,i64_w,i32_w]
           rfl
          refine take_ (i:=1) (N:=some 68) (v:=?_) (a':=?_) #[Y,Y,Y,Z] rfl rfl (by kernel_rfl) (fun _ _ _ h => h) (Or.inl ⟨by rfl,?_⟩) hHeld ?_ ?_
          rotate_left
          ·
           rintro w' ⟨s0,s1⟩
           go_simp
           with_reducible rfl
          rotate_left
          ·
           simp only [Act.put,lA_,lB_,lC_,i64_w,i32_w]
           rfl
          refine one_ (i:=3) (N:=none) #[Y,Y,Y,Y] rfl rfl (by kernel_rfl) (by decide) (fun K hK => ?_)
          have hs97 : w96.cell? ⟨gb215,0,none⟩ = some (.int .i64 0):=(zm6_ BK215.out 0).trans rfl
          have hfs97:=zm7_ BK215.out 0
          have hns97_0:=NB213_215.out
          have hns97_1:=NB214_215.out
          have hns97_3:=NB220_215.out
          have hms97_0:=NB215_213.out
          have hms97_1:=NB215_214.out
          have hms97_3:=NB215_220.out
          have hs98 : w96.cell? ⟨gb215,1,none⟩ = some (.slice none 0 0):=(zm6_ BK215.out 1).trans rfl
          have hfs98:=zm7_ BK215.out 1
          have hns98_0:=NB213_215.out
          have hns98_1:=NB214_215.out
          have hns98_3:=NB220_215.out
          have hms98_0:=NB215_213.out
          have hms98_1:=NB215_214.out
          have hms98_3:=NB215_220.out
          refine skip_ (w1:=?_) (by rfl) rfl ?_ ?_
          rotate_left
          ·
           go_simp
           rfl
          refine hK.out _ _ ⟨((cell_far (p:=⟨gb215,_,none⟩) NB220_215.out _).trans (((cell_far (p:=⟨gb215,_,none⟩) NB220_215.out _).trans (hHeld.1)))),((cell_far (p:=⟨gb215,_,none⟩) NB220_215.out _).trans (((cell_far (p:=⟨gb215,_,none⟩) NB220_215.out _).trans (hHeld.2))))⟩ (fun hHeld => ?_)
          clear hK K
          refine done_ (by kernel_rfl) ?_
          try go_wp2
          refine bodyPost_ret (results_tc rfl _ _ gb215 32 #[.int .i64 t216,.slice Ao18 t217.length co18] (0,0) _ rfl (by (with_reducible repeat (first|refine k6_ ?_ _|refine k7_ ?_|refine k5_ ?_ _));refine blk_put (cs:=#[.int .i64 t216,.slice none 0 0]) ?_ 1 _ rfl;(with_reducible repeat (first|refine k6_ ?_ _|refine k7_ ?_|refine k5_ ?_ _));refine blk_put (cs:=#[.int .i64 0,.slice none 0 0]) ?_ 0 _ rfl;(with_reducible repeat (first|refine k6_ ?_ _|refine k7_ ?_|refine k5_ ?_ _));exact BK215.out) Tryz.underlying32 rfl (by kernel_rfl)) rfl ?_
          exact ⟨_,_,ze,by (with_reducible repeat (first|apply k1_|apply k2_|apply k3_));exact zo2_ (k4_ (p:=⟨gb215,1,none⟩) (k4_ (p:=⟨gb215,0,none⟩) (Kd.R_types HO247.out BK215.out (by decide)) (fun _ hk => hk.2) (.int .i64 t216)) (fun _ hk => hk.2) (.slice Ao18 t217.length co18)) (fun _ hk => trivial),by (with_reducible repeat (first|apply k1_|apply k2_|apply k3_));exact zo2_ (k4_ (p:=⟨gb215,1,none⟩) (k4_ (p:=⟨gb215,0,none⟩) (Kd.R_types HO_221001.out BK215.out (by decide)) (fun _ hk => hk.2) (.int .i64 t216)) (fun _ hk => hk.2) (.slice Ao18 t217.length co18)) (fun _ hk => trivial),by repeat (first|(with_reducible first|exact HB.out|apply zm3_|apply zm2_|apply zm4_|refine zm1_ ?_ GE213.out|refine zm1_ ?_ GE214.out|refine zm1_ ?_ GE215.out|refine zm1_ ?_ GE220.out)|exact HB.out)⟩
end Go.Proofs.YthflimnpiglgbaaGreatDoor.A
end
section
namespace Go.Proofs.YthflimnpiglgbaaGreatDoor.A
open Go.RowKit Go.Proofs.YthflimnpiglgbaaGreatDoorW.PrintWords Go.Proofs.YthflimnpiglgbaaGreatDoorW.PrintLast Go.Proofs.YthflimnpiglgbaaGreatDoorW.PrintMore
attribute [local go_sem] max2_int min2_int max_two min_two max_three min_three max_four min_four   -- for this text's walks alone
set_option linter.unusedVariables false
set_option linter.unusedSimpArgs false

def laws_toField.f (a0_0 : ByteArray) (a0_1 : ByteArray) : Option (ByteArray × ByteArray):=some (a0_0,a0_1)
set_option maxHeartbeats 8000000 in
set_option maxRecDepth 100000 in
theorem laws_toField.calls (a0_0 : ByteArray) (a0_1 : ByteArray) (r1 : ByteArray) (r2 : ByteArray) (w : World) (h : laws_toField.f a0_0 a0_1 = some (r1,r2)) :
 Calls Tryz.prog 9 #[.agg #[.string a0_0,.string a0_1]] w fun e w' => e = .returned (.agg #[.string r1,.string r2]) ∧ Below w.heap.size w w':=by
 have hu26:=Tryz.underlying26
 have hu36:=Tryz.underlying36
 have HB:=zm0_ (Below.refl w.heap.size w)
 have H : (some (a0_0,a0_1)) = some (r1,r2):=h
 clear h
 simp only [Option.some.injEq,Prod.mk.injEq] at H
 obtain ⟨rfl,rfl⟩:=H
 go_enter Tryz.func9,Tryz.ntmps9
 go_wp2_with (first|((with_reducible refine gate_dst (N:=1) rfl ?_);refine box_event ?hg (N:=1) ?hd (cs:=#[.string a0_0,.string a0_1]) (t:=26) ?hr ?_;(case hd => rfl);(case hg => rfl);(case hr => first|(go_simp;done)|(go_simp;rfl));intro gb252 hg w2 hbox hb;have BK252:=zm0_ (hbox);have GW252:=zm0_ ((by rw [hg];exact (zn9_ (zl HB)) : w.heap.size ≤ gb252));have GE252:=zm0_ ((by rw [hg];exact (zn9_ (zl HB)) : w.heap.size ≤ gb252));replace HB:=zm0_ (zn8_ (zl HB) hb);clear hb hbox hg)|((with_reducible refine gate_dst (N:=2) rfl ?_);refine box_event ?hg (N:=2) ?hd (cs:=#[.string (⟨#[]⟩ : ByteArray),.string (⟨#[]⟩ : ByteArray)]) (t:=36) ?hr ?_;(case hd => rfl);(case hg => rfl);(case hr => first|(go_simp;done)|(go_simp;rfl));intro gb253 hg w3 hbox hb;have BK253:=zm0_ (hbox);have GW253:=zm0_ ((by rw [hg];exact (zn9_ (zl1 HB GE252)) : w.heap.size ≤ gb253));have GE253:=zm0_ ((by rw [hg];exact (zn9_ (zl1 HB GE252)) : w.heap.size ≤ gb253));replace HB:=zm0_ (zn8_ (zl1 HB GE252) hb);have NB252_253:=zm0_ ((by rw [hg];exact Nat.ne_of_lt (zo3_ (g:=gb252) (o:=.cells #[.string a0_0,.string a0_1] 26 (0,0)) (zb BK252)) : gb252 ≠ gb253));have NB253_252:=zm0_ ((by rw [hg];exact Nat.ne_of_gt (zo3_ (g:=gb252) (o:=.cells #[.string a0_0,.string a0_1] 26 (0,0)) (zb BK252)) : gb253 ≠ gb252));replace BK252:=zm0_ (zm5_ (zb BK252) hb);clear hb hbox hg)|((with_reducible refine gate_dst (N:=3) rfl ?_);refine box_event ?hg (N:=3) ?hd (cs:=#[.string (⟨#[]⟩ : ByteArray),.string (⟨#[]⟩ : ByteArray)]) (t:=36) ?hr ?_;(case hd => rfl);(case hg => rfl);(case hr => first|(go_simp;done)|(go_simp;rfl));intro gb254 hg w4 hbox hb;have BK254:=zm0_ (hbox);have GW254:=zm0_ ((by rw [hg];exact (zn9_ (zl2 HB GE252 GE253)) : w.heap.size ≤ gb254));have GE254:=zm0_ ((by rw [hg];exact (zn9_ (zl2 HB GE252 GE253)) : w.heap.size ≤ gb254));replace HB:=zm0_ (zn8_ (zl2 HB GE252 GE253) hb);have NB252_254:=zm0_ ((by rw [hg];exact Nat.ne_of_lt (zo3_ (g:=gb252) (o:=.cells #[.string a0_0,.string a0_1] 26 (0,0)) (zb BK252)) : gb252 ≠ gb254));have NB254_252:=zm0_ ((by rw [hg];exact Nat.ne_of_gt (zo3_ (g:=gb252) (o:=.cells #[.string a0_0,.string a0_1] 26 (0,0)) (zb BK252)) : gb254 ≠ gb252));replace BK252:=zm0_ (zm5_ (zb BK252) hb);have NB253_254:=zm0_ ((by rw [hg];exact Nat.ne_of_lt (zo3_ (g:=gb253) (o:=.cells #[.string (⟨#[]⟩ : ByteArray),.string (⟨#[]⟩ : ByteArray)] 36 (0,0)) (zb BK253)) : gb253 ≠ gb254));have NB254_253:=zm0_ ((by rw [hg];exact Nat.ne_of_gt (zo3_ (g:=gb253) (o:=.cells #[.string (⟨#[]⟩ : ByteArray),.string (⟨#[]⟩ : ByteArray)] 36 (0,0)) (zb BK253)) : gb254 ≠ gb253));replace BK253:=zm0_ (zm5_ (zb BK253) hb);clear hb hbox hg;have hnb5:=NB252_253.out;have hnc5:=NB253_252.out;have hnb6:=NB252_254.out;have hnc6:=NB254_252.out;have hcz7_0 : w4.cell? ⟨gb252,0,none⟩ = some (.string a0_0):=(zm6_ BK252.out 0).trans rfl;have hcz7_1 : w4.cell? ⟨gb252,1,none⟩ = some (.string a0_1):=(zm6_ BK252.out 1).trans rfl;have hfz7_0:=zm7_ BK252.out 0;have hfz7_1:=zm7_ BK252.out 1;have hnb8:=NB254_253.out;have hnc8:=NB253_254.out;have hcz9_0 : w4.cell? ⟨gb254,0,none⟩ = some (.string (⟨#[]⟩ : ByteArray)):=(zm6_ BK254.out 0).trans rfl;have hcz9_1 : w4.cell? ⟨gb254,1,none⟩ = some (.string (⟨#[]⟩ : ByteArray)):=(zm6_ BK254.out 1).trans rfl;have hfz9_0:=zm7_ BK254.out 0;have hfz9_1:=zm7_ BK254.out 1;have hcz10_0 : w4.cell? ⟨gb253,0,none⟩ = some (.string (⟨#[]⟩ : ByteArray)):=(zm6_ BK253.out 0).trans rfl;have hcz10_1 : w4.cell? ⟨gb253,1,none⟩ = some (.string (⟨#[]⟩ : ByteArray)):=(zm6_ BK253.out 1).trans rfl;have hfz10_0:=zm7_ BK253.out 0;have hfz10_1:=zm7_ BK253.out 1))
 refine bodyPost_ret (results_cell_row rfl _ _ gb253 36 #[.string a0_0,.string a0_1] (0,0) _ rfl (by (with_reducible repeat (first|refine k6_ ?_ _|refine k7_ ?_|refine k5_ ?_ _));refine blk_put (cs:=#[.string a0_0,.string (⟨#[]⟩ : ByteArray)]) ?_ 1 _ rfl;(with_reducible repeat (first|refine k6_ ?_ _|refine k7_ ?_|refine k5_ ?_ _));refine blk_put (cs:=#[.string (⟨#[]⟩ : ByteArray),.string (⟨#[]⟩ : ByteArray)]) ?_ 0 _ rfl;(with_reducible repeat (first|refine k6_ ?_ _|refine k7_ ?_|refine k5_ ?_ _));refine blk_far ?_ NB253_254.out _;(with_reducible repeat (first|refine k6_ ?_ _|refine k7_ ?_|refine k5_ ?_ _));refine blk_far ?_ NB253_254.out _;(with_reducible repeat (first|refine k6_ ?_ _|refine k7_ ?_|refine k5_ ?_ _));exact BK253.out) Tryz.underlying36 rfl (by kernel_rfl)) rfl ?_
 exact ⟨ze,by repeat (first|(with_reducible first|exact HB.out|apply zm3_|apply zm2_|apply zm4_|refine zm1_ ?_ GE252.out|refine zm1_ ?_ GE253.out|refine zm1_ ?_ GE254.out)|exact HB.out)⟩
end Go.Proofs.YthflimnpiglgbaaGreatDoor.A
end
section
namespace Go.Proofs.YthflimnpiglgbaaGreatDoor.A
open Go.RowKit Go.Proofs.YthflimnpiglgbaaGreatDoorW.PrintWords Go.Proofs.YthflimnpiglgbaaGreatDoorW.PrintLast Go.Proofs.YthflimnpiglgbaaGreatDoorW.PrintMore
attribute [local go_sem] max2_int min2_int max_two min_two max_three min_three max_four min_four   -- for this text's walks alone
set_option linter.unusedVariables false
set_option linter.unusedSimpArgs false

def laws_toFieldS.l0 : Nat → List (S26) → List (S36) → Int → Option ((List (S36)))
 | 0,_,_,_ => none
 | k + 1,x0,x3,x4 => if x4 < (x0.length : Int) then (if 0 ≤ x4 then ((laws_toField.f ((rd_T26 x0 x4).f0) ((rd_T26 x0 x4).f1)).bind fun bt259 => (if x4 < (x3.length : Int) then (laws_toFieldS.l0 k x0 (x3.set (x4 : Int).toNat (⟨bt259.1,bt259.2⟩ : S36)) (wrap64 (x4 + 1))) else (none))) else (none)) else (some x3)
def laws_toFieldS.f (k : Nat) (l0 : List (S26)) : Option ((List (S36))):=if 0 ≤ (l0.length : Int) then (if ((l0.length : Int) : Int).toNat ≤ 8796093022208 then (laws_toFieldS.l0 k l0 (List.replicate ((l0.length : Int) : Int).toNat z36) 0) else (none)) else (none)
theorem laws_toFieldS.mono_l : ∀ k,(∀ y0 y1 y2,LeO (laws_toFieldS.l0 k y0 y1 y2) (laws_toFieldS.l0 (k + 1) y0 y1 y2))
 | 0 => fun _ _ _ r h => by simp [laws_toFieldS.l0] at h
 | k + 1 => by
  have ih0:=laws_toFieldS.mono_l k
  ·
   intro y0 y1 y2
   unfold laws_toFieldS.l0
   repeat' first
   | (with_reducible exact ih0 _ _ _)
   | (with_reducible exact LeO.refl _)
   | (with_reducible exact LeO.none _)
   | (with_reducible refine LeO.ite ?_ ?_)
   | (with_reducible refine LeO.bind ?_ (fun _ => ?_))
   | exact ih0 _ _ _
   | exact LeO.none _
   | refine LeO.ite ?_ ?_
   | refine LeO.bind ?_ (fun _ => ?_)
theorem laws_toFieldS.mono : ∀ a0 k,LeO (laws_toFieldS.f k a0) (laws_toFieldS.f (k + 1) a0):=by
 intro a0 k
 have ih0:=laws_toFieldS.mono_l k
 unfold laws_toFieldS.f
 repeat' first
  | (with_reducible exact ih0 _ _ _)
  | (with_reducible exact LeO.refl _)
  | (with_reducible exact LeO.none _)
  | (with_reducible refine LeO.ite ?_ ?_)
  | (with_reducible refine LeO.bind ?_ (fun _ => ?_))
  | exact ih0 _ _ _
  | exact LeO.none _
  | refine LeO.ite ?_ ?_
  | refine LeO.bind ?_ (fun _ => ?_)
set_option maxHeartbeats 8000000 in
set_option maxRecDepth 100000 in
theorem laws_toFieldS.calls (k : Nat) (A0 : Option Addr) (c0 : Nat) (l0 : List (S26)) (r : List (S36)) (w : World) (hr0 : Kd.C k26 w A0 l0.length l0) (hc0 : l0.length ≤ c0) (h : laws_toFieldS.f k l0 = some r) :
 Calls Tryz.prog 19 #[.slice A0 l0.length c0] w fun e w' => ∃ v0_ : Value,e = .returned (v0_) ∧ Kd.R k36 36 w' w.heap.size (fun _ => True) v0_ r ∧ Below w.heap.size w w':=by
 have hu26:=Tryz.underlying26
 have hu36:=Tryz.underlying36
 have HR0:=zm0_ hr0
 have HC0:=zm0_ hc0
 clear hr0 hc0
 have HB:=zm0_ (Below.refl w.heap.size w)
 have H : (if 0 ≤ (l0.length : Int) then (if ((l0.length : Int) : Int).toNat ≤ 8796093022208 then (laws_toFieldS.l0 k l0 (List.replicate ((l0.length : Int) : Int).toNat z36) 0) else (none)) else (none)) = some r:=h
 clear h
 by_cases c2 : 0 ≤ (l0.length : Int)
 ·
  rw [if_pos c2] at H
  have c2b0:=eq_true c2
  have c2b1 : decide (0 ≤ (l0.length : Int)) = true:=decide_eq_true c2
  clear c2
  by_cases c3 : ((l0.length : Int) : Int).toNat ≤ 8796093022208
  ·
   rw [if_pos c3] at H
   have c3b0:=eq_true c3
   have c3b1 : decide (((l0.length : Int) : Int).toNat ≤ 8796093022208) = true:=decide_eq_true c3
   clear c3
   obtain ⟨y255,hy255⟩ : ∃ y_ : List (S36),y_ = (List.replicate ((l0.length : Int) : Int).toNat z36):=⟨_,rfl⟩
   replace H : (laws_toFieldS.l0 k l0 y255 0) = some r:=by first|(rw [hy255];with_reducible exact H)|(have H2_:=(Option.bind_some _ _).symm.trans H;rw [hy255];with_reducible exact H2_)|(have H2_:=(Option.bind_some _ _).symm.trans H;with_reducible exact H2_)|with_reducible exact H|(rw [hy255];exact H)|exact H
   have Ny255:=zm0_ hy255
   clear hy255
   have H':=zm0_ H
   clear H
   go_enter Tryz.func19,Tryz.ntmps19
   go_wp2_with (first|((with_reducible refine gate_dst (N:=7) rfl ?_);refine Kd.R_make k36 _ 36 rfl (N:=7) rfl 30 _ _ rfl (l0.length : Int) rfl rfl Tryz.underlying30 (.agg #[(.string ⟨#[]⟩),(.string ⟨#[]⟩)]) 32 info36 rfl (by decide) (by omega) z36 (ok:=fun _ => True) (okp:=fun _ => True) (k36_mkM _ _ _ z36 ) (fun _ hk => hk) trivial (of_decide_eq_true (by first|(with_reducible assumption)|assumption)) (Nat.le_trans (Nat.mul_le_mul_right _ (of_decide_eq_true (by first|(with_reducible assumption)|assumption) : (l0.length : Int).toNat ≤ 8796093022208)) (by omega)) (Below.refl _ _) (Nat.le_refl _) ?_;intro v256 w4 ho5 hb hg_ hnew_;clear hg_ hnew_;(first|rw [← Ny255.out] at ho5|(simp only [Int.reduceToNat] at ho5;rw [← Ny255.out] at ho5));have HO257:=zm0_ (zo1_ ho5 (zn9_ (zl HB)));replace HB:=zm0_ (zn8_ (zl HB) hb);clear hb ho5))
   go_loopg [4] k (fun kq v4 w' => ∃ (x3_1 : List (S36)) (x4_1 : Int),v4 = .int .i64 x4_1 ∧ Aside0 (laws_toFieldS.l0 kq l0 x3_1 x4_1 = some r) ∧ Aside0 (kq ≤ k) ∧ Aside0 (Kd.R k36 36 w' w.heap.size (fun _ => True) v256 x3_1) ∧ Aside0 (Below w.heap.size w w'))
   case atStart => exact ⟨(y255),(0),zz,H',⟨Nat.le_refl _⟩,⟨zr HO257⟩,⟨zl HB⟩⟩
   case round =>
    clear H'
    try clear c1
    try clear c2
    try clear c2b0
    try clear c2b1
    try clear p2
    try clear c3
    try clear c3b0
    try clear c3b1
    obtain ⟨x3_1,x4_1,rfl,HA,HK1,HO_3,HB⟩:=hrel
    cases gk with
    | zero => exact absurd HA.out (by simp [laws_toFieldS.l0])
    | succ k1 =>
     have H:=HA.out
     clear HA
     simp only [laws_toFieldS.l0] at H
     by_cases c6 : x4_1 < (l0.length : Int)
     ·
      rw [if_pos c6] at H
      have c6b0 : decide (x4_1 < (l0.length : Int)) = true:=decide_eq_true c6
      clear c6
      by_cases c7 : 0 ≤ x4_1
      ·
       rw [if_pos c7] at H
       have c7b0 : decide (0 ≤ x4_1) = true:=decide_eq_true c7
       clear c7
       replace H:=zq1_ H
       obtain ⟨⟨t259,t260⟩,A80,H⟩:=H
       replace H : (if x4_1 < (x3_1.length : Int) then (laws_toFieldS.l0 k1 l0 (x3_1.set (x4_1 : Int).toNat (⟨t259,t260⟩ : S36)) (wrap64 (x4_1 + 1))) else (none)) = some r:=H
       have A8:=zm0_ A80
       clear A80
       by_cases c9 : x4_1 < (x3_1.length : Int)
       ·
        rw [if_pos c9] at H
        have c9b0 : decide (x4_1 < (x3_1.length : Int)) = true:=decide_eq_true c9
        clear c9
        obtain ⟨y261,hy261⟩ : ∃ y_ : List (S36),y_ = (x3_1.set (x4_1 : Int).toNat (⟨t259,t260⟩ : S36)):=⟨_,rfl⟩
        replace H : (laws_toFieldS.l0 k1 l0 y261 (wrap64 (x4_1 + 1))) = some r:=by first|(rw [hy261];with_reducible exact H)|(have H2_:=(Option.bind_some _ _).symm.trans H;rw [hy261];with_reducible exact H2_)|(have H2_:=(Option.bind_some _ _).symm.trans H;with_reducible exact H2_)|with_reducible exact H|(rw [hy261];exact H)|exact H
        have Ny261:=zm0_ hy261
        clear hy261
        have H':=zm0_ H
        clear H
        have p258 : 0 ≤ (x4_1 : Int):=of_decide_eq_true (by first|(with_reducible assumption)|assumption)
        have q258 : x4_1 < (l0.length : Int):=of_decide_eq_true (by first|(with_reducible assumption)|assumption)
        obtain ⟨ad258,e258,hx258_0,hx258_1⟩:=at_T26 HR0.out x4_1 p258 q258
        cases e258
        replace hx258_0:=(HB.out.cell (zq2_ w _ hx258_0)).trans hx258_0
        replace hx258_1:=(HB.out.cell (zq2_ w _ hx258_1)).trans hx258_1
        replace p258:=eq_true p258
        replace q258:=eq_true q258
        go_wp2_with (first|((with_reducible refine gate_callee (f:=9) rfl ?_);refine goesL_ (some 20) rfl rfl Tryz.func9 (by kernel_rfl) rfl #[.agg #[.string ((rd_T26 l0 x4_1).f0),.string ((rd_T26 l0 x4_1).f1)]] rfl zy ?_;(with_reducible refine (laws_toField.calls ((rd_T26 l0 x4_1).f0) ((rd_T26 l0 x4_1).f1) t259 t260 _ A8.out).mono ?_);rintro e w11 ⟨rfl,hb⟩;refine ⟨_,rfl,?_⟩;replace HO_3:=zm0_ (zm8_ (zr HO_3) hb);replace HB:=zm0_ (zn8_ (zl HB) hb);(try clear hb);(try clear hb2);(try clear hk);(try clear hi);have p10 : 0 ≤ (x4_1 : Int):=of_decide_eq_true (by first|(with_reducible assumption)|assumption);have q10 : (x4_1 : Int) < ((x3_1.length : Int) : Int):=of_decide_eq_true (by first|(with_reducible assumption)|assumption);obtain ⟨go10,co10,eo10,gb10,gl10,cl10,HG10⟩:=Kd.R_form HO_3.out (by omega);(first|cases eo10|(injection eo10 with ea_ en_ ec_;(first|subst ea_|(injection ea_ with ea_;subst ea_));subst ec_;clear en_));have GB10:=zm0_ gb10;have GG10:=zm0_ HG10;clear gb10 gl10 HG10;obtain ⟨ce10,hcl10,hM10,hcc10,hfr10⟩:=Kd.R_elem HO_3.out z36 (x4_1 : Int) p10 q10;obtain rfl:=k36_openM hM10;have hx10_0 : w11.cell? ⟨go10,(x4_1 : Int).toNat * 2,none⟩ = some (.string ((rd_T36 x3_1 x4_1).f0)):=hcc10 0 _ rfl;have hx10_1 : w11.cell? ⟨go10,(x4_1 : Int).toNat * 2 + 1,none⟩ = some (.string ((rd_T36 x3_1 x4_1).f1)):=hcc10 1 _ rfl;have hf10_0 : w11.frozen? ⟨go10,(x4_1 : Int).toNat * 2,none⟩ = false:=hfr10 0;have hf10_1 : w11.frozen? ⟨go10,(x4_1 : Int).toNat * 2 + 1,none⟩ = false:=hfr10 1;clear hcl10 hcc10 hfr10 hM10;replace p10:=eq_true p10;replace q10:=eq_true q10;have HX12:=zm0_ (show Kd.R k36 36 w11 w.heap.size (fun _ => True) (.slice (some ⟨go10,0,none⟩) x3_1.length co10) x3_1 from (zr HO_3));obtain ⟨ce12,hcl12,hM12,hcc12,hfr12⟩:=Kd.R_elem HX12.out z36 (x4_1 : Int) (of_decide_eq_true (by first|(with_reducible assumption)|assumption)) (by have h_ : (x4_1 : Int) < ((x3_1.length : Int) : Int):=of_decide_eq_true (by first|(with_reducible assumption)|assumption);first|exact h_|(have e_:=(Kd.R_reads' HO_3.out).1;omega)|simpa using h_);obtain rfl:=k36_openM hM12;have HP12:=Kd.R_seg HX12.out (x4_1 : Int) (of_decide_eq_true (by first|(with_reducible assumption)|assumption)) (by have h_ : (x4_1 : Int) < ((x3_1.length : Int) : Int):=of_decide_eq_true (by first|(with_reducible assumption)|assumption);first|exact h_|(have e_:=(Kd.R_reads' HO_3.out).1;omega)|simpa using h_) (seg:=[.string t259,.string t260]) (j:=0) hcl12 hcc12 (show 2 ≤ 2 from by decide) (x':=(⟨t259,t260⟩ : S36)) (k36_mkM _ _ _ (⟨t259,t260⟩ : S36) ) (fun _ hk => hk);have hx12_0:=hcc12 0 _ rfl;(try simp only [show (k36).sz = 2 from rfl,Nat.mul_one,Nat.add_zero] at hx12_0);have hf12_0:=hfr12 0;(try simp only [show (k36).sz = 2 from rfl,Nat.mul_one,Nat.add_zero] at hf12_0);have hx12_1:=hcc12 1 _ rfl;(try simp only [show (k36).sz = 2 from rfl,Nat.mul_one,Nat.add_zero] at hx12_1);have hf12_1:=hfr12 1;(try simp only [show (k36).sz = 2 from rfl,Nat.mul_one,Nat.add_zero] at hf12_1);clear hcl12 hcc12 hfr12 hM12)|((with_reducible refine gate_store (t:=36) (p:=21) rfl ?_);refine store_event (t:=36) (p:=21) (v:=?vo_w13) (w1:=((w11.setCell ⟨go10,(x4_1 : Int).toNat * 2,none⟩ (.string t259)).setCell ⟨go10,(x4_1 : Int).toNat * 2 + 1,none⟩ (.string t260))) ?hg ?ho ?hn ?hr ?_;(case ho => rfl);(case hg => rfl);(case hn => rfl);(case hr => first|(go_simp;done)|(go_simp;rfl));intro w13 hw;have hg : w11.grownBy w13 (some go10):=(by rw [hw];exact HP12.2);have hp_ : Kd.R k36 36 w13 w.heap.size (fun _ => True) (.slice (some ⟨go10,0,none⟩) x3_1.length co10) y261:=(by rw [hw,Ny261.out];exact HP12.1);clear HP12;replace HO_3:=zm0_ (hp_);replace HB:=zm0_ ((by rw [hw];exact zm1_ (zm1_ (HB.out) GB10.out) GB10.out : Below w.heap.size w w13));clear hg hw hp_))
        go_roundg k1
        case measure => have:=HK1.out;omega
        case rel => exact ⟨(y261),(wrap64 (x4_1 + 1)),zz,H',⟨by have:=HK1.out;omega⟩,⟨zr HO_3⟩,⟨zl HB⟩⟩
       ·
        rw [if_neg c9] at H
        exact absurd H (by simp)
      ·
       rw [if_neg c7] at H
       exact absurd H (by simp)
     ·
      rw [if_neg c6] at H
      have c6b0 : decide (x4_1 < (l0.length : Int)) = false:=decide_eq_false c6
      clear c6
      obtain rfl:=Option.some.inj H
      go_wp2
      go_ret
      exact ⟨_,ze,by (with_reducible repeat (first|apply k1_|apply k2_|apply k3_));exact HO_3.out,by repeat (first|(with_reducible first|exact HB.out|apply zm3_|apply zm2_|apply zm4_)|exact HB.out)⟩
  ·
   rw [if_neg c3] at H
   exact absurd H (by simp)
 ·
  rw [if_neg c2] at H
  exact absurd H (by simp)
end Go.Proofs.YthflimnpiglgbaaGreatDoor.A
end
section
namespace Go.Proofs.YthflimnpiglgbaaGreatDoor.A
open Go.RowKit Go.Proofs.YthflimnpiglgbaaGreatDoorW.PrintWords Go.Proofs.YthflimnpiglgbaaGreatDoorW.PrintLast Go.Proofs.YthflimnpiglgbaaGreatDoorW.PrintMore
attribute [local go_sem] max2_int min2_int max_two min_two max_three min_three max_four min_four   -- for this text's walks alone
set_option linter.unusedVariables false
set_option linter.unusedSimpArgs false

def laws_toTable.f (k : Nat) (a0_0 : Int) (l0_1 : List (S26)) : Option (Int × (List (S36))):=(laws_toFieldS.f k l0_1).bind fun t265 => (some (a0_0,t265))
theorem laws_toTable.mono : ∀ a0 a1 k,LeO (laws_toTable.f k a0 a1) (laws_toTable.f (k + 1) a0 a1):=by
 intro a0 a1 k
 unfold laws_toTable.f
 repeat' first
  | (with_reducible exact laws_toFieldS.mono _ _)
  | (with_reducible exact LeO.refl _)
  | (with_reducible exact LeO.none _)
  | (with_reducible refine LeO.ite ?_ ?_)
  | (with_reducible refine LeO.bind ?_ (fun _ => ?_))
  | exact laws_toFieldS.mono _ _
  | exact LeO.none _
  | refine LeO.ite ?_ ?_
  | refine LeO.bind ?_ (fun _ => ?_)
set_option maxHeartbeats 8000000 in
set_option maxRecDepth 100000 in
theorem laws_toTable.calls (k : Nat) (a0_0 : Int) (A0_1 : Option Addr) (c0_1 : Nat) (l0_1 : List (S26)) (r1 : Int) (r2 : List (S36)) (w : World) (hr0_1 : Kd.C k26 w A0_1 l0_1.length l0_1) (hc0_1 : l0_1.length ≤ c0_1) (h : laws_toTable.f k a0_0 l0_1 = some (r1,r2)) :
 Calls Tryz.prog 8 #[.agg #[.int .i64 a0_0,.slice A0_1 l0_1.length c0_1]] w fun e w' => ∃ v1_ : Value,e = .returned (.agg #[.int .i64 r1,v1_]) ∧ Kd.R k36 36 w' w.heap.size (fun _ => True) v1_ r2 ∧ Below w.heap.size w w':=by
 have hu24:=Tryz.underlying24
 have hu32:=Tryz.underlying32
 have HR0_1:=zm0_ hr0_1
 have HC0_1:=zm0_ hc0_1
 clear hr0_1 hc0_1
 have HB:=zm0_ (Below.refl w.heap.size w)
 have H : ((laws_toFieldS.f k l0_1).bind fun t265 => (some (a0_0,t265))) = some (r1,r2):=h
 clear h
 replace H:=zq1_ H
 obtain ⟨t265,A20,H⟩:=H
 replace H : (some (a0_0,t265)) = some (r1,r2):=H
 have A2:=zm0_ A20
 clear A20
 simp only [Option.some.injEq,Prod.mk.injEq] at H
 obtain ⟨rfl,rfl⟩:=H
 go_enter Tryz.func8,Tryz.ntmps8
 go_wp2_with (first|((with_reducible refine gate_dst (N:=1) rfl ?_);refine box_event ?hg (N:=1) ?hd (cs:=#[.int .i64 a0_0,.slice A0_1 l0_1.length c0_1]) (t:=24) ?hr ?_;(case hd => rfl);(case hg => rfl);(case hr => first|(go_simp;done)|(go_simp;rfl));intro gb262 hg w3 hbox hb;have BK262:=zm0_ (hbox);have GW262:=zm0_ ((by rw [hg];exact (zn9_ (zl HB)) : w.heap.size ≤ gb262));have GE262:=zm0_ ((by rw [hg];exact (zn9_ (zl HB)) : w.heap.size ≤ gb262));replace HB:=zm0_ (zn8_ (zl HB) hb);clear hb hbox hg)|((with_reducible refine gate_dst (N:=2) rfl ?_);refine box_event ?hg (N:=2) ?hd (cs:=#[.int .i64 0,.slice none 0 0]) (t:=32) ?hr ?_;(case hd => rfl);(case hg => rfl);(case hr => first|(go_simp;done)|(go_simp;rfl));intro gb263 hg w4 hbox hb;have BK263:=zm0_ (hbox);have GW263:=zm0_ ((by rw [hg];exact (zn9_ (zl1 HB GE262)) : w.heap.size ≤ gb263));have GE263:=zm0_ ((by rw [hg];exact (zn9_ (zl1 HB GE262)) : w.heap.size ≤ gb263));replace HB:=zm0_ (zn8_ (zl1 HB GE262) hb);have NB262_263:=zm0_ ((by rw [hg];exact Nat.ne_of_lt (zo3_ (g:=gb262) (o:=.cells #[.int .i64 a0_0,.slice A0_1 l0_1.length c0_1] 24 (0,0)) (zb BK262)) : gb262 ≠ gb263));have NB263_262:=zm0_ ((by rw [hg];exact Nat.ne_of_gt (zo3_ (g:=gb262) (o:=.cells #[.int .i64 a0_0,.slice A0_1 l0_1.length c0_1] 24 (0,0)) (zb BK262)) : gb263 ≠ gb262));replace BK262:=zm0_ (zm5_ (zb BK262) hb);clear hb hbox hg)|((with_reducible refine gate_dst (N:=3) rfl ?_);refine box_event ?hg (N:=3) ?hd (cs:=#[.int .i64 0,.slice none 0 0]) (t:=32) ?hr ?_;(case hd => rfl);(case hg => rfl);(case hr => first|(go_simp;done)|(go_simp;rfl));intro gb264 hg w5 hbox hb;have BK264:=zm0_ (hbox);have GW264:=zm0_ ((by rw [hg];exact (zn9_ (zl2 HB GE262 GE263)) : w.heap.size ≤ gb264));have GE264:=zm0_ ((by rw [hg];exact (zn9_ (zl2 HB GE262 GE263)) : w.heap.size ≤ gb264));replace HB:=zm0_ (zn8_ (zl2 HB GE262 GE263) hb);have NB262_264:=zm0_ ((by rw [hg];exact Nat.ne_of_lt (zo3_ (g:=gb262) (o:=.cells #[.int .i64 a0_0,.slice A0_1 l0_1.length c0_1] 24 (0,0)) (zb BK262)) : gb262 ≠ gb264));have NB264_262:=zm0_ ((by rw [hg];exact Nat.ne_of_gt (zo3_ (g:=gb262) (o:=.cells #[.int .i64 a0_0,.slice A0_1 l0_1.length c0_1] 24 (0,0)) (zb BK262)) : gb264 ≠ gb262));replace BK262:=zm0_ (zm5_ (zb BK262) hb);have NB263_264:=zm0_ ((by rw [hg];exact Nat.ne_of_lt (zo3_ (g:=gb263) (o:=.cells #[.int .i64 0,.slice none 0 0] 32 (0,0)) (zb BK263)) : gb263 ≠ gb264));have NB264_263:=zm0_ ((by rw [hg];exact Nat.ne_of_gt (zo3_ (g:=gb263) (o:=.cells #[.int .i64 0,.slice none 0 0] 32 (0,0)) (zb BK263)) : gb264 ≠ gb263));replace BK263:=zm0_ (zm5_ (zb BK263) hb);clear hb hbox hg;have hnb6:=NB262_263.out;have hnc6:=NB263_262.out;have hnb7:=NB262_264.out;have hnc7:=NB264_262.out;have hcz8_0 : w5.cell? ⟨gb262,0,none⟩ = some (.int .i64 a0_0):=(zm6_ BK262.out 0).trans rfl;have hcz8_1 : w5.cell? ⟨gb262,1,none⟩ = some (.slice A0_1 l0_1.length c0_1):=(zm6_ BK262.out 1).trans rfl;have hfz8_0:=zm7_ BK262.out 0;have hfz8_1:=zm7_ BK262.out 1;have hnb9:=NB264_263.out;have hnc9:=NB263_264.out;have hcz10_0 : w5.cell? ⟨gb264,0,none⟩ = some (.int .i64 0):=(zm6_ BK264.out 0).trans rfl;have hcz10_1 : w5.cell? ⟨gb264,1,none⟩ = some (.slice none 0 0):=(zm6_ BK264.out 1).trans rfl;have hfz10_0:=zm7_ BK264.out 0;have hfz10_1:=zm7_ BK264.out 1)|((with_reducible refine gate_callee (f:=19) rfl ?_);refine goesL_ (some 9) rfl rfl Tryz.func19 (by kernel_rfl) rfl #[.slice A0_1 l0_1.length c0_1] rfl zy ?_;(with_reducible refine (laws_toFieldS.calls k _ _ l0_1 t265 _ ?side1 ?side2 A2.out).mono ?_);(case side1 => exact Kd.C_below HR0_1.out (zl3 HB GE262 GE263 GE264));(case side2 => exact HC0_1.out);rintro e w11 ⟨v266,rfl,ho0,hb⟩;refine ⟨_,rfl,?_⟩;have HO267:=zm0_ (zo1_ ho0 (zn9_ (zl3 HB GE262 GE263 GE264)));replace BK262:=zm0_ (zm5_ (g:=gb262) (o:=.cells #[.int .i64 a0_0,.slice A0_1 l0_1.length c0_1] 24 (0,0)) (by (with_reducible repeat (first|refine k6_ ?_ _|refine k7_ ?_|refine k5_ ?_ _));refine blk_far ?_ NB262_264.out _;(with_reducible repeat (first|refine k6_ ?_ _|refine k7_ ?_|refine k5_ ?_ _));exact BK262.out) hb);replace BK263:=zm0_ (zm5_ (g:=gb263) (o:=.cells #[.int .i64 0,.slice none 0 0] 32 (0,0)) (by (with_reducible repeat (first|refine k6_ ?_ _|refine k7_ ?_|refine k5_ ?_ _));refine blk_far ?_ NB263_264.out _;(with_reducible repeat (first|refine k6_ ?_ _|refine k7_ ?_|refine k5_ ?_ _));exact BK263.out) hb);replace BK264:=zm0_ (zm5_ (g:=gb264) (o:=.cells #[.int .i64 a0_0,.slice none 0 0] 32 (0,0)) (by (with_reducible repeat (first|refine k6_ ?_ _|refine k7_ ?_|refine k5_ ?_ _));refine blk_put (cs:=#[.int .i64 0,.slice none 0 0]) ?_ 0 _ rfl;(with_reducible repeat (first|refine k6_ ?_ _|refine k7_ ?_|refine k5_ ?_ _));exact BK264.out) hb);replace HB:=zm0_ (zn8_ (zl3 HB GE262 GE263 GE264) hb);(try clear hb);(try clear hb2);(try clear hk);(try clear hi);(try clear ho0);obtain ⟨Ao12,co12,eo12⟩:=Kd.R_slice HO267.out;subst eo12;have hcz13_0 : w11.cell? ⟨gb264,0,none⟩ = some (.int .i64 a0_0):=(zm6_ BK264.out 0).trans rfl;have hcz13_1 : w11.cell? ⟨gb264,1,none⟩ = some (.slice none 0 0):=(zm6_ BK264.out 1).trans rfl;have hfz13_0:=zm7_ BK264.out 0;have hfz13_1:=zm7_ BK264.out 1;have hcz14_0 : w11.cell? ⟨gb263,0,none⟩ = some (.int .i64 0):=(zm6_ BK263.out 0).trans rfl;have hcz14_1 : w11.cell? ⟨gb263,1,none⟩ = some (.slice none 0 0):=(zm6_ BK263.out 1).trans rfl;have hfz14_0:=zm7_ BK263.out 0;have hfz14_1:=zm7_ BK263.out 1))
 refine bodyPost_ret (results_cell_row rfl _ _ gb263 32 #[.int .i64 a0_0,.slice Ao12 t265.length co12] (0,0) _ rfl (by (with_reducible repeat (first|refine k6_ ?_ _|refine k7_ ?_|refine k5_ ?_ _));refine blk_put (cs:=#[.int .i64 a0_0,.slice none 0 0]) ?_ 1 _ rfl;(with_reducible repeat (first|refine k6_ ?_ _|refine k7_ ?_|refine k5_ ?_ _));refine blk_put (cs:=#[.int .i64 0,.slice none 0 0]) ?_ 0 _ rfl;(with_reducible repeat (first|refine k6_ ?_ _|refine k7_ ?_|refine k5_ ?_ _));refine blk_far ?_ NB263_264.out _;(with_reducible repeat (first|refine k6_ ?_ _|refine k7_ ?_|refine k5_ ?_ _));exact BK263.out) Tryz.underlying32 rfl (by kernel_rfl)) rfl ?_
 exact ⟨_,ze,by (with_reducible repeat (first|apply k1_|apply k2_|apply k3_));exact zo2_ (k4_ (p:=⟨gb263,1,none⟩) (k4_ (p:=⟨gb263,0,none⟩) (k4_ (p:=⟨gb264,1,none⟩) (Kd.R_types (Kd.R_types HO267.out BK264.out (by decide)) BK263.out (by decide)) (fun _ hk => hk.1.2) (.slice Ao12 t265.length co12)) (fun _ hk => hk.2) (.int .i64 a0_0)) (fun _ hk => hk.2) (.slice Ao12 t265.length co12)) (fun _ hk => trivial),by repeat (first|(with_reducible first|exact HB.out|apply zm3_|apply zm2_|apply zm4_|refine zm1_ ?_ GE262.out|refine zm1_ ?_ GE263.out|refine zm1_ ?_ GE264.out)|exact HB.out)⟩
def impl_Field_42.f (l0 : List (S36)) : Option ((List (S36))):=(some (([] : List (S36)) : List (S36))).bind fun y268 => (if y268.length + l0.length < 4398046511104 then (some (y268 ++ l0)) else (none))
set_option maxHeartbeats 8000000 in
set_option maxRecDepth 100000 in
theorem impl_Field_42.calls (A0 : Option Addr) (c0 : Nat) (l0 : List (S36)) (r : List (S36)) (w : World) (hr0 : Kd.C k36 w A0 l0.length l0) (hc0 : l0.length ≤ c0) (h : impl_Field_42.f l0 = some r) :
 Calls Tryz.prog 42 #[.slice A0 l0.length c0] w fun e w' => ∃ v0_ : Value,e = .returned (v0_) ∧ Kd.R k36 36 w' w.heap.size (fun _ => True) v0_ r ∧ Below w.heap.size w w':=by
 have hnil30eql:=fun (W_ : World) (a_ : Option Addr) (n_ c_ : Nat) => Go.Proofs.YthflimnpiglgbaaGreatDoorM.PrintMine.run_eql_nil (P:=Tryz.prog) W_ Tryz.underlying30 a_ n_ c_
 have HR0:=zm0_ hr0
 have HC0:=zm0_ hc0
 clear hr0 hc0
 have HB:=zm0_ (Below.refl w.heap.size w)
 have H : ((some (([] : List (S36)) : List (S36))).bind fun y268 => (if y268.length + l0.length < 4398046511104 then (some (y268 ++ l0)) else (none))) = some r:=h
 clear h
 rcases A0 with _|A0x
 ·
  obtain rfl:=Go.Proofs.YthflimnpiglgbaaGreatDoorM.PrintMine.C_none HR0.out
  have H1 : (some ([] : List (S36))) = some r:=by first|(simpa using H)|exact H
  clear H
  have H:=H1
  clear H1
  obtain rfl:=Option.some.inj H
  go_enter Tryz.func42,Tryz.ntmps42
  go_wp2
  go_ret
  exact ⟨_,ze,by first|exact Kd.R_nil _ _ _ _ _|exact Kd.N_nil _ _ _ _ _|exact Kd.V_nil _ _ _ _ _|exact Kd.Q_nil _ _ _ _ _|exact Kd.S_nil _ _ _ _ _,by repeat (first|(with_reducible first|exact HB.out|apply zm3_|apply zm2_|apply zm4_)|exact HB.out)⟩
 ·
  skip
  obtain ⟨y268,hy268⟩ : ∃ y_ : List (S36),y_ = (([] : List (S36))):=⟨_,rfl⟩
  replace H : (if y268.length + l0.length < 4398046511104 then (some (y268 ++ l0)) else (none)) = some r:=by first|(rw [hy268];with_reducible exact H)|(have H2_:=(Option.bind_some _ _).symm.trans H;rw [hy268];with_reducible exact H2_)|(have H2_:=(Option.bind_some _ _).symm.trans H;with_reducible exact H2_)|with_reducible exact H|(rw [hy268];exact H)|exact H
  have Ny268:=zm0_ hy268
  clear hy268
  by_cases c2 : y268.length + l0.length < 4398046511104
  ·
   rw [if_pos c2] at H
   have LMc2:=zm0_ c2
   clear c2
   obtain ⟨y271,hy271⟩ : ∃ y_ : List (S36),y_ = (y268 ++ l0):=⟨_,rfl⟩
   replace H : (some y271) = some r:=by first|(rw [hy271];with_reducible exact H)|(have H2_:=(Option.bind_some _ _).symm.trans H;rw [hy271];with_reducible exact H2_)|(have H2_:=(Option.bind_some _ _).symm.trans H;with_reducible exact H2_)|with_reducible exact H|(rw [hy271];exact H)|exact H
   have Ny271:=zm0_ hy271
   clear hy271
   obtain rfl:=Option.some.inj H
   go_enter Tryz.func42,Tryz.ntmps42
   go_wp2_with (first|((with_reducible refine gate_dst (N:=5) rfl ?_);refine Kd.R_lit k36 _ 36 ?hg (N:=5) ?hd (xs:=([] : List (S36))) (inner:=[]) (ok:=fun _ => True) (okp:=fun _ => True) ?hr ?hp (fun _ hk => hk) trivial (Below.refl _ _) (Nat.le_refl _) (by simp) ?_;(case hd => rfl);(case hg => rfl);(case hr => first|(go_simp;done)|(go_simp;rfl));(case hp => exact (Reps.none _ _));intro v269 w3 ho4 hb hg_ hnew_;clear hg_ hnew_;(first|rw [← Ny268.out] at ho4|(simp only [Int.reduceToNat] at ho4;rw [← Ny268.out] at ho4));have HO270:=zm0_ (zo1_ ho4 (zn9_ (zl HB)));replace HB:=zm0_ (zn8_ (zl HB) hb);clear hb ho4)|((with_reducible refine gate_builtin (b:=.append) (xs:=#[.tmp 5,.tmp 6]) rfl ?_);at_builtin;refine Kd.R_append_rows k36 (w0:=w) w.heap.size rfl (.tmp 5) (.tmp 6) 30 36 (.agg #[(.string ⟨#[]⟩),(.string ⟨#[]⟩)]) 32 rfl Tryz.underlying30 info36 rfl (by decide) (by omega) v269 y268 l0 _ _ _ (fun _ => True) (fun _ => False) rfl rfl ?aO ?aR (fun _ _ h => h) (fun _ h => h.elim) ?aF ?aB ?aS ?aL ?_;(case aR => repeat (first|exact (Kd.C_below HR0.out HB.out)|(with_reducible refine Kd.C_alloc ?_ _)|(with_reducible refine Kd.C_drewN ?_ _)|(with_reducible refine Kd.C_drew ?_)));(case aB => exact (zl HB));(case aF => exact (fun _ _ => trivial));(case aO => exact (zr HO270));(case aS => exact (zn9_ (zl HB)));(case aL => have:=LMc2.out;omega);intro v272 w5 ho hb hg hat;(first|(with_reducible rw [← Ny271.out] at ho)|(simp only [Int.reduceToNat] at ho;with_reducible rw [← Ny271.out] at ho)|rw [← Ny271.out] at ho);replace HB:=zm0_ (hb);have HO273:=zm0_ (ho);clear HO270;clear ho hb hg hat))
   go_ret
   exact ⟨_,ze,by (with_reducible repeat (first|apply k1_|apply k2_|apply k3_));exact HO273.out,by repeat (first|(with_reducible first|exact HB.out|apply zm3_|apply zm2_|apply zm4_)|exact HB.out)⟩
  ·
   rw [if_neg c2] at H
   exact absurd H (by simp)
end Go.Proofs.YthflimnpiglgbaaGreatDoor.A
end
section
namespace Go.Proofs.YthflimnpiglgbaaGreatDoor.A
open Go.RowKit Go.Proofs.YthflimnpiglgbaaGreatDoorW.PrintWords Go.Proofs.YthflimnpiglgbaaGreatDoorW.PrintLast Go.Proofs.YthflimnpiglgbaaGreatDoorW.PrintMore
attribute [local go_sem] max2_int min2_int max_two min_two max_three min_three max_four min_four   -- for this text's walks alone
set_option linter.unusedVariables false
set_option linter.unusedSimpArgs false

-- NOT PRINTED: function 81 (utf8_RuneCountInString)

-- NOT PRINTED: function 92 (utf8_decodeRuneInStringSlow)

-- NOT PRINTED: function 82 (utf8_DecodeRuneInString)

-- NOT PRINTED: function 71 (strings_explode)

-- NOT PRINTED: function 93 (bytealg_IndexByteString)

-- NOT PRINTED: function 84 (stringslite_IndexByte)

-- NOT PRINTED: function 85 (bytealg_IndexString)

-- NOT PRINTED: function 86 (bytealg_Cutover)

-- NOT PRINTED: function 94 (bytealg_hashStr_string)

-- NOT PRINTED: function 87 (bytealg_IndexRabinKarp_string)

-- NOT PRINTED: function 74 (stringslite_Index)

-- NOT PRINTED: function 73 (strings_Index)

-- NOT PRINTED: function 83 (bytealg_CountString)

-- NOT PRINTED: function 72 (strings_Count)

-- NOT PRINTED: function 66 (strings_genSplit)

/-- What the library's own variables hold. -/
def TB (w : World) : Prop:=(∃ m,w.cell? ⟨0,0,none⟩ = some (.int .i64 m))
theorem tb_below {w w' : World} (h : TB w) (hb : Below w.heap.size w w') : TB w':=by
 have h1:=h
 unfold TB at h1 ⊢
 obtain ⟨m,hm⟩:=h1
 exact ⟨m,(hb.cell (zq2_ w _ hm)).trans hm⟩
def strings_Split.f (a0 a1 : ByteArray) : Option (List ByteArray):=if (a0.size < 4294967281 ∧ 1 ≤ a1.size) ∧ Lib.countB a0 a1 + 1 ≤ maxLen ∧ (Lib.splitB a1 0 (Lib.countB a0 a1) a0).length = Lib.countB a0 a1 + 1 then some (Lib.splitB a1 0 (Lib.countB a0 a1) a0) else none
theorem strings_Split.calls (a0 a1 : ByteArray) (r : List ByteArray) (w : World) (ht : TB w) (A : strings_Split.f a0 a1 = some r) : Calls Tryz.prog 61 #[.string a0,.string a1] w fun e w' => ∃ v0_ : Value,e = .returned v0_ ∧ Kd.R Kd.string 9 w' w.heap.size (fun _ => True) v0_ r ∧ Below w.heap.size w w':=by
 unfold strings_Split.f at A
 by_cases h : (a0.size < 4294967281 ∧ 1 ≤ a1.size) ∧ Lib.countB a0 a1 + 1 ≤ maxLen ∧ (Lib.splitB a1 0 (Lib.countB a0 a1) a0).length = Lib.countB a0 a1 + 1
 ·
  rw [if_pos h] at A
  obtain rfl:=Option.some.inj A
  obtain ⟨m,hm⟩:=ht
  refine (Tryz.strings_Split a0 a1 m w h.1.1 hm h.1.2).mono ?_
  rintro e w' ⟨rfl,rfl⟩
  have ho:=World.ownsRow_lit (base:=w.heap.size) (e:=9) (size:=1) w (((Lib.splitB a1 0 (Lib.countB a0 a1) a0).map Value.string).toArray) (Lib.countB a0 a1 + 1) (Nat.le_refl _) h.2.1 (by simp [h.2.2])
  refine ⟨_,rfl,Kd.R_of_own (enc:=Value.string) (by rw [h.2.2];exact ho) (by intro k _;simp),(Below.refl _ w).alloc (Nat.le_refl _) _⟩
 ·
  rw [if_neg h] at A
  cases A
-- NOT PRINTED: function 67 (stringslite_Cut)
def strings_Cut.f (a0 a1 : ByteArray) : Option (ByteArray × ByteArray × Bool):=if a0.size < 4294967281 then some (⟨(Lib.cut a0.data.toList a1.data.toList).1.toArray⟩,⟨(Lib.cut a0.data.toList a1.data.toList).2.1.toArray⟩,(Lib.cut a0.data.toList a1.data.toList).2.2) else none
theorem strings_Cut.calls (a0 a1 : ByteArray) (r1 r2 : ByteArray) (r3 : Bool) (w : World) (ht : TB w) (A : strings_Cut.f a0 a1 = some (r1,r2,r3)) : Calls Tryz.prog 62 #[.string a0,.string a1] w fun e w' => e = .returned (.tuple #[.string r1,.string r2,.bool r3]) ∧ Drawn0 w w':=by
 unfold strings_Cut.f at A
 by_cases h : a0.size < 4294967281
 ·
  rw [if_pos h] at A
  cases A
  obtain ⟨m,hm⟩:=ht
  refine (Tryz.strings_Cut a0 a1 m w h hm).mono ?_
  rintro e w' ⟨rfl,n,rfl⟩
  exact ⟨rfl,⟨⟨n,rfl⟩⟩⟩
 ·
  rw [if_neg h] at A
  cases A
end Go.Proofs.YthflimnpiglgbaaGreatDoor.A
end
section
namespace Go.Proofs.YthflimnpiglgbaaGreatDoor.A
open Go.RowKit Go.Proofs.YthflimnpiglgbaaGreatDoorW.PrintWords Go.Proofs.YthflimnpiglgbaaGreatDoorW.PrintLast Go.Proofs.YthflimnpiglgbaaGreatDoorW.PrintMore
attribute [local go_sem] max2_int min2_int max_two min_two max_three min_three max_four min_four   -- for this text's walks alone
set_option linter.unusedVariables false
set_option linter.unusedSimpArgs false

def impl_copyTable.f (a0_0 : Int) (l0_1 : List (S36)) : Option (Int × (List (S36))):=(impl_Field_42.f l0_1).bind fun t276 => (some (a0_0,t276))
set_option maxHeartbeats 8000000 in
set_option maxRecDepth 100000 in
theorem impl_copyTable.calls (a0_0 : Int) (A0_1 : Option Addr) (c0_1 : Nat) (l0_1 : List (S36)) (r1 : Int) (r2 : List (S36)) (w : World) (hr0_1 : Kd.C k36 w A0_1 l0_1.length l0_1) (hc0_1 : l0_1.length ≤ c0_1) (h : impl_copyTable.f a0_0 l0_1 = some (r1,r2)) :
 Calls Tryz.prog 31 #[.agg #[.int .i64 a0_0,.slice A0_1 l0_1.length c0_1]] w fun e w' => ∃ v1_ : Value,e = .returned (.agg #[.int .i64 r1,v1_]) ∧ Kd.R k36 36 w' w.heap.size (fun _ => True) v1_ r2 ∧ Below w.heap.size w w':=by
 have hu32:=Tryz.underlying32
 have HR0_1:=zm0_ hr0_1
 have HC0_1:=zm0_ hc0_1
 clear hr0_1 hc0_1
 have HB:=zm0_ (Below.refl w.heap.size w)
 have H : ((impl_Field_42.f l0_1).bind fun t276 => (some (a0_0,t276))) = some (r1,r2):=h
 clear h
 replace H:=zq1_ H
 obtain ⟨t276,A20,H⟩:=H
 replace H : (some (a0_0,t276)) = some (r1,r2):=H
 have A2:=zm0_ A20
 clear A20
 simp only [Option.some.injEq,Prod.mk.injEq] at H
 obtain ⟨rfl,rfl⟩:=H
 go_enter Tryz.func31,Tryz.ntmps31
 try go_wp2_with (first|((with_reducible refine gate_dst (N:=1) rfl ?_);refine box_event ?hg (N:=1) ?hd (cs:=#[.int .i64 a0_0,.slice A0_1 l0_1.length c0_1]) (t:=32) ?hr ?_;(case hd => rfl);(case hg => rfl);(case hr => first|(go_simp;done)|(go_simp;rfl));intro gb274 hg w3 hbox hb;have BK274:=zm0_ (hbox);have GW274:=zm0_ ((by rw [hg];exact (zn9_ (zl HB)) : w.heap.size ≤ gb274));have GE274:=zm0_ ((by rw [hg];exact (zn9_ (zl HB)) : w.heap.size ≤ gb274));replace HB:=zm0_ (zn8_ (zl HB) hb);clear hb hbox hg)|((with_reducible refine gate_dst (N:=2) rfl ?_);refine box_event ?hg (N:=2) ?hd (cs:=#[.int .i64 0,.slice none 0 0]) (t:=32) ?hr ?_;(case hd => rfl);(case hg => rfl);(case hr => first|(go_simp;done)|(go_simp;rfl));intro gb275 hg w4 hbox hb;have BK275:=zm0_ (hbox);have GW275:=zm0_ ((by rw [hg];exact (zn9_ (zl1 HB GE274)) : w.heap.size ≤ gb275));have GE275:=zm0_ ((by rw [hg];exact (zn9_ (zl1 HB GE274)) : w.heap.size ≤ gb275));replace HB:=zm0_ (zn8_ (zl1 HB GE274) hb);have NB274_275:=zm0_ ((by rw [hg];exact Nat.ne_of_lt (zo3_ (g:=gb274) (o:=.cells #[.int .i64 a0_0,.slice A0_1 l0_1.length c0_1] 32 (0,0)) (zb BK274)) : gb274 ≠ gb275));have NB275_274:=zm0_ ((by rw [hg];exact Nat.ne_of_gt (zo3_ (g:=gb274) (o:=.cells #[.int .i64 a0_0,.slice A0_1 l0_1.length c0_1] 32 (0,0)) (zb BK274)) : gb275 ≠ gb274));replace BK274:=zm0_ (zm5_ (zb BK274) hb);clear hb hbox hg))
 replace BK274:=zm0_ (k7_ BK274.out)
 replace BK275:=zm0_ (k7_ BK275.out)
 replace HB:=zm0_ (zm4_ HB.out)
 refine start_ (n:=7) (S:=fun w' => w'.cell? ⟨gb274,0,none⟩ = some (.int .i64 a0_0) ∧ w'.cell? ⟨gb274,1,none⟩ = some (.slice A0_1 l0_1.length c0_1)) (ds:=[]) #[Z,Z,Z,Z,Z,Z,Z] (by kernel_rfl) rfl rfl ⟨(zm6_ BK274.out 0).trans rfl,(zm6_ BK274.out 1).trans rfl⟩ (fun hHeld => ?_)
 generalize w4.drew = w5 at BK274 BK275 HB hHeld ⊢
 refine pure_ (i:=0) (N:=some 3) (v:=?_) (a':=?_) #[Y,Z,Z,Z,Z,Z,Z] rfl rfl (by kernel_rfl) (fun _ _ _ h => h) (Or.inl ⟨by rfl,?_⟩) ?_ ?_
 rotate_left
 ·
  intro w'
  go_simp
  with_reducible rfl
 rotate_left
 ·
  simp only [Act.put,lA_,lB_,lC_,i64_w,i32_w]
  rfl
 refine pure_ (i:=2) (N:=some 5) (v:=?_) (a':=?_) #[Y,Z,Y,Z,Z,Z,Z] rfl rfl (by kernel_rfl) (fun _ _ _ h => h) (Or.inl ⟨by rfl,?_⟩) ?_ ?_
 rotate_left
 ·
  intro w'
  go_simp
  with_reducible rfl
 rotate_left
 ·
  simp only [Act.put,lA_,lB_,lC_,i64_w,i32_w]
  rfl
 refine take_ (i:=1) (N:=some 4) (v:=?_) (a':=?_) #[Y,Y,Y,Z,Z,Z,Z] rfl rfl (by kernel_rfl) (fun _ _ _ h => h) (Or.inl ⟨by rfl,?_⟩) hHeld ?_ ?_
 rotate_left
 ·
  rintro w' ⟨s0,s1⟩
  go_simp
  with_reducible rfl
 rotate_left
 ·
  simp only [Act.put,lA_,lB_,lC_,i64_w,i32_w]
  rfl
 refine take_ (i:=3) (N:=some 6) (v:=?_) (a':=?_) #[Y,Y,Y,Y,Z,Z,Z] rfl rfl (by kernel_rfl) (fun _ _ _ h => h) (Or.inl ⟨by rfl,?_⟩) hHeld ?_ ?_
 rotate_left
 ·
  rintro w' ⟨s0,s1⟩
  go_simp
  with_reducible rfl
 rotate_left
 ·
  simp only [Act.put,lA_,lB_,lC_,i64_w,i32_w]
  rfl
 refine one_ (i:=4) (N:=some 7) #[Y,Y,Y,Y,Y,Z,Z] rfl rfl (by kernel_rfl) (by decide) (fun K hK => ?_)
 refine goes_ Tryz.func42 (by kernel_rfl) rfl #[.slice A0_1 l0_1.length c0_1] (by rfl) rfl rfl zy ?_
 with_reducible refine (impl_Field_42.calls _ _ l0_1 t276 _ ?side1 ?side2 A2.out).mono ?_
 (case side1 => repeat (first|exact (Kd.C_below HR0_1.out HB.out)|(with_reducible refine Kd.C_alloc ?_ _)|(with_reducible refine Kd.C_drewN ?_ _)|(with_reducible refine Kd.C_drew ?_)))
 (case side2 => exact HC0_1.out)
 rintro e w6 ⟨v277,rfl,ho0,hb⟩
 refine ⟨_,rfl,?_⟩
 have HO278:=zm0_ (zo1_ ho0 (zn9_ (zl2 HB GE274 GE275)))
 replace BK274:=zm0_ (zm5_ (zb BK274) hb)
 replace BK275:=zm0_ (zm5_ (zb BK275) hb)
 replace HB:=zm0_ (zn8_ (zl2 HB GE274 GE275) hb)
 (try clear hb)
 (try clear hb2)
 (try clear hk)
 (try clear hi)
 (try clear ho0)
 obtain ⟨Ao7,co7,eo7⟩:=Kd.R_slice HO278.out
 (first|subst eo7|(injection eo7 with f1_ f2_ f3_;have f4_:=f1_.symm;have f5_:=f3_.symm;clear f1_ f2_ f3_;subst f4_;subst f5_))
 refine hK.out _ _ ⟨(zm6_ BK274.out 0).trans rfl,(zm6_ BK274.out 1).trans rfl⟩ (fun hHeld => ?_)
 clear hK K
 refine norm_ (a':=?_) ?_ ?_
 rotate_left
 ·
  show Act.put _ (some 7) _ = _
  simp only [Act.put,lA_,lB_,lC_,i64_w,i32_w]
  rfl
 refine pure_ (i:=5) (N:=some 8) (v:=?_) (a':=?_) #[Y,Y,Y,Y,Y,Y,Z] rfl rfl (by kernel_rfl) (fun _ _ _ h => h) (Or.inl ⟨by rfl,?_⟩) ?_ ?_
 rotate_left
 ·
  intro w'
  go_simp
  with_reducible rfl
 rotate_left
 ·
  simp only [Act.put,lA_,lB_,lC_,i64_w,i32_w]
  rfl
 refine one_ (i:=6) (N:=none) #[Y,Y,Y,Y,Y,Y,Y] rfl rfl (by kernel_rfl) (by decide) (fun K hK => ?_)
 have hs8 : w6.cell? ⟨gb275,0,none⟩ = some (.int .i64 0):=(zm6_ BK275.out 0).trans rfl
 have hfs8:=zm7_ BK275.out 0
 have hns8_0:=NB274_275.out
 have hms8_0:=NB275_274.out
 have hs9 : w6.cell? ⟨gb275,1,none⟩ = some (.slice none 0 0):=(zm6_ BK275.out 1).trans rfl
 have hfs9:=zm7_ BK275.out 1
 have hns9_0:=NB274_275.out
 have hms9_0:=NB275_274.out
 refine skip_ (w1:=?_) (by rfl) rfl ?_ ?_
 rotate_left
 ·
  go_simp
  rfl
 refine hK.out _ _ ⟨((cell_far (p:=⟨gb275,_,none⟩) NB274_275.out _).trans (((cell_far (p:=⟨gb275,_,none⟩) NB274_275.out _).trans (hHeld.1)))),((cell_far (p:=⟨gb275,_,none⟩) NB274_275.out _).trans (((cell_far (p:=⟨gb275,_,none⟩) NB274_275.out _).trans (hHeld.2))))⟩ (fun hHeld => ?_)
 clear hK K
 refine done_ (by kernel_rfl) ?_
 try go_wp2
 refine bodyPost_ret (results_cell_row rfl _ _ gb275 32 #[.int .i64 a0_0,.slice Ao7 t276.length co7] (0,0) _ rfl (by (with_reducible repeat (first|refine k6_ ?_ _|refine k7_ ?_|refine k5_ ?_ _));refine blk_put (cs:=#[.int .i64 a0_0,.slice none 0 0]) ?_ 1 _ rfl;(with_reducible repeat (first|refine k6_ ?_ _|refine k7_ ?_|refine k5_ ?_ _));refine blk_put (cs:=#[.int .i64 0,.slice none 0 0]) ?_ 0 _ rfl;(with_reducible repeat (first|refine k6_ ?_ _|refine k7_ ?_|refine k5_ ?_ _));exact BK275.out) Tryz.underlying32 rfl (by kernel_rfl)) rfl ?_
 exact ⟨_,ze,by (with_reducible repeat (first|apply k1_|apply k2_|apply k3_));exact zo2_ (k4_ (p:=⟨gb275,1,none⟩) (k4_ (p:=⟨gb275,0,none⟩) (Kd.R_types HO278.out BK275.out (by decide)) (fun _ hk => hk.2) (.int .i64 a0_0)) (fun _ hk => hk.2) (.slice Ao7 t276.length co7)) (fun _ hk => trivial),by repeat (first|(with_reducible first|exact HB.out|apply zm3_|apply zm2_|apply zm4_|refine zm1_ ?_ GE274.out|refine zm1_ ?_ GE275.out)|exact HB.out)⟩
end Go.Proofs.YthflimnpiglgbaaGreatDoor.A
end
section
namespace Go.Proofs.YthflimnpiglgbaaGreatDoor.A
open Go.RowKit Go.Proofs.YthflimnpiglgbaaGreatDoorW.PrintWords Go.Proofs.YthflimnpiglgbaaGreatDoorW.PrintLast Go.Proofs.YthflimnpiglgbaaGreatDoorW.PrintMore
attribute [local go_sem] max2_int min2_int max_two min_two max_three min_three max_four min_four   -- for this text's walks alone
set_option linter.unusedVariables false
set_option linter.unusedSimpArgs false

def impl_inRange.f (a0 : Int) (a1 : Int) (a2 : Int) : Option (Bool):=if a0 ≥ a1 then (some (decide (a0 ≤ a2))) else (some false)
set_option maxHeartbeats 8000000 in
set_option maxRecDepth 100000 in
theorem impl_inRange.calls (a0 : Int) (a1 : Int) (a2 : Int) (r : Bool) (w : World) (h : impl_inRange.f a0 a1 a2 = some r) :
 Calls Tryz.prog 32 #[.int .i64 a0,.int .i64 a1,.int .i64 a2] w fun e w' => e = .returned (.bool r) ∧ Drawn0 w w':=by
 have H : (if a0 ≥ a1 then (some (decide (a0 ≤ a2))) else (some false)) = some r:=h
 clear h
 by_cases c4 : a0 ≥ a1
 ·
  rw [if_pos c4] at H
  have c4b0 : decide (a1 ≤ a0) = true:=decide_eq_true c4
  clear c4
  obtain rfl:=Option.some.inj H
  go_enter Tryz.func32,Tryz.ntmps32
  go_wp2
  go_ret
  exact ⟨by first|rfl|(simp;done)|(simp [*];done),by repeat (first|exact Drawn0.refl _|apply Drawn0.step)⟩
 ·
  rw [if_neg c4] at H
  have c4b0 : decide (a1 ≤ a0) = false:=decide_eq_false c4
  clear c4
  obtain rfl:=Option.some.inj H
  go_enter Tryz.func32,Tryz.ntmps32
  go_wp2
  go_ret
  exact ⟨by first|rfl|(simp;done)|(simp [*];done),by repeat (first|exact Drawn0.refl _|apply Drawn0.step)⟩
def impl_sizeOf.f (a0_0 : ByteArray) (a0_1 : ByteArray) : Option (Int):=some (wrap64 ((wrap64 ((a0_0.size : Int) + (a0_1.size : Int))) + 32))
set_option maxHeartbeats 8000000 in
set_option maxRecDepth 100000 in
theorem impl_sizeOf.calls (a0_0 : ByteArray) (a0_1 : ByteArray) (r : Int) (w : World) (h : impl_sizeOf.f a0_0 a0_1 = some r) :
 Calls Tryz.prog 52 #[.agg #[.string a0_0,.string a0_1]] w fun e w' => e = .returned (.int .i64 r) ∧ Below w.heap.size w w':=by
 have hu36:=Tryz.underlying36
 have HB:=zm0_ (Below.refl w.heap.size w)
 have H : (some (wrap64 ((wrap64 ((a0_0.size : Int) + (a0_1.size : Int))) + 32))) = some r:=h
 clear h
 obtain rfl:=Option.some.inj H
 go_enter Tryz.func52,Tryz.ntmps52
 go_wp2_with (first|((with_reducible refine gate_dst (N:=1) rfl ?_);refine box_event ?hg (N:=1) ?hd (cs:=#[.string a0_0,.string a0_1]) (t:=36) ?hr ?_;(case hd => rfl);(case hg => rfl);(case hr => first|(go_simp;done)|(go_simp;rfl));intro gb279 hg w2 hbox hb;have BK279:=zm0_ (hbox);have GW279:=zm0_ ((by rw [hg];exact (zn9_ (zl HB)) : w.heap.size ≤ gb279));have GE279:=zm0_ ((by rw [hg];exact (zn9_ (zl HB)) : w.heap.size ≤ gb279));replace HB:=zm0_ (zn8_ (zl HB) hb);clear hb hbox hg;have hcz3_0 : w2.cell? ⟨gb279,0,none⟩ = some (.string a0_0):=(zm6_ BK279.out 0).trans rfl;have hcz3_1 : w2.cell? ⟨gb279,1,none⟩ = some (.string a0_1):=(zm6_ BK279.out 1).trans rfl;have hfz3_0:=zm7_ BK279.out 0;have hfz3_1:=zm7_ BK279.out 1))
 go_ret
 exact ⟨ze,by repeat (first|(with_reducible first|exact HB.out|apply zm3_|apply zm2_|apply zm4_|refine zm1_ ?_ GE279.out)|exact HB.out)⟩
def impl_SizeOf.l0 : Nat → Int → List (S36) → Int → Int → Option (Int)
 | 0,_,_,_,_ => none
 | k + 1,x3,x7,x8,x9 => if x9 < x8 then (if 0 ≤ x9 then (if x9 < (x7.length : Int) then ((impl_sizeOf.f ((rd_T36 x7 x9).f0) ((rd_T36 x7 x9).f1)).bind fun t283 => (impl_SizeOf.l0 k (wrap64 (x3 + t283)) x7 x8 (wrap64 (x9 + 1)))) else (none)) else (none)) else (some x3)
def impl_SizeOf.f (k : Nat) (a0_0 : Int) (l0_1 : List (S36)) : Option (Int):=impl_SizeOf.l0 k 0 l0_1 (l0_1.length : Int) 0
theorem impl_SizeOf.mono_l : ∀ k,(∀ y0 y1 y2 y3,LeO (impl_SizeOf.l0 k y0 y1 y2 y3) (impl_SizeOf.l0 (k + 1) y0 y1 y2 y3))
 | 0 => fun _ _ _ _ r h => by simp [impl_SizeOf.l0] at h
 | k + 1 => by
  have ih0:=impl_SizeOf.mono_l k
  ·
   intro y0 y1 y2 y3
   unfold impl_SizeOf.l0
   repeat' first
   | (with_reducible exact ih0 _ _ _ _)
   | (with_reducible exact LeO.refl _)
   | (with_reducible exact LeO.none _)
   | (with_reducible refine LeO.ite ?_ ?_)
   | (with_reducible refine LeO.bind ?_ (fun _ => ?_))
   | exact ih0 _ _ _ _
   | exact LeO.none _
   | refine LeO.ite ?_ ?_
   | refine LeO.bind ?_ (fun _ => ?_)
theorem impl_SizeOf.mono : ∀ a0 a1 k,LeO (impl_SizeOf.f k a0 a1) (impl_SizeOf.f (k + 1) a0 a1):=by
 intro a0 a1 k
 have ih0:=impl_SizeOf.mono_l k
 unfold impl_SizeOf.f
 repeat' first
  | (with_reducible exact ih0 _ _ _ _)
  | (with_reducible exact LeO.refl _)
  | (with_reducible exact LeO.none _)
  | (with_reducible refine LeO.ite ?_ ?_)
  | (with_reducible refine LeO.bind ?_ (fun _ => ?_))
  | exact ih0 _ _ _ _
  | exact LeO.none _
  | refine LeO.ite ?_ ?_
  | refine LeO.bind ?_ (fun _ => ?_)
set_option maxHeartbeats 8000000 in
set_option maxRecDepth 100000 in
theorem impl_SizeOf.calls (k : Nat) (a0_0 : Int) (A0_1 : Option Addr) (c0_1 : Nat) (l0_1 : List (S36)) (r : Int) (w : World) (hr0_1 : Kd.C k36 w A0_1 l0_1.length l0_1) (hc0_1 : l0_1.length ≤ c0_1) (h : impl_SizeOf.f k a0_0 l0_1 = some r) :
 Calls Tryz.prog 43 #[.agg #[.int .i64 a0_0,.slice A0_1 l0_1.length c0_1]] w fun e w' => e = .returned (.int .i64 r) ∧ Below w.heap.size w w':=by
 have hu32:=Tryz.underlying32
 have hu36:=Tryz.underlying36
 have HR0_1:=zm0_ hr0_1
 have HC0_1:=zm0_ hc0_1
 clear hr0_1 hc0_1
 have HB:=zm0_ (Below.refl w.heap.size w)
 have H : (impl_SizeOf.l0 k 0 l0_1 (l0_1.length : Int) 0) = some r:=h
 clear h
 have H':=zm0_ H
 clear H
 go_enter Tryz.func43,Tryz.ntmps43
 go_wp2_with (first|((with_reducible refine gate_dst (N:=1) rfl ?_);refine box_event ?hg (N:=1) ?hd (cs:=#[.int .i64 a0_0,.slice A0_1 l0_1.length c0_1]) (t:=32) ?hr ?_;(case hd => rfl);(case hg => rfl);(case hr => first|(go_simp;done)|(go_simp;rfl));intro gb280 hg w2 hbox hb;have BK280:=zm0_ (hbox);have GW280:=zm0_ ((by rw [hg];exact (zn9_ (zl HB)) : w.heap.size ≤ gb280));have GE280:=zm0_ ((by rw [hg];exact (zn9_ (zl HB)) : w.heap.size ≤ gb280));replace HB:=zm0_ (zn8_ (zl HB) hb);clear hb hbox hg;have hcz3_0 : w2.cell? ⟨gb280,0,none⟩ = some (.int .i64 a0_0):=(zm6_ BK280.out 0).trans rfl;have hcz3_1 : w2.cell? ⟨gb280,1,none⟩ = some (.slice A0_1 l0_1.length c0_1):=(zm6_ BK280.out 1).trans rfl;have hfz3_0:=zm7_ BK280.out 0;have hfz3_1:=zm7_ BK280.out 1))
 go_loopg [3,9] k (fun kq v3 v9 w' => ∃ (x3_1 : Int) (x9_1 : Int),v3 = .int .i64 x3_1 ∧ v9 = .int .i64 x9_1 ∧ Aside0 (impl_SizeOf.l0 kq x3_1 l0_1 (l0_1.length : Int) x9_1 = some r) ∧ Aside0 (kq ≤ k) ∧ Aside0 (w'.heap[gb280]? = some (.cells #[.int .i64 a0_0,(.slice A0_1 l0_1.length c0_1)] 32 (0,0))) ∧ Aside0 (Below w.heap.size w w'))
 case atStart => exact ⟨(0),(0),zz,zz,H',⟨Nat.le_refl _⟩,⟨zb BK280⟩,⟨zl1 HB GE280⟩⟩
 case round =>
  clear H'
  try clear p2
  try clear hcz3_0
  try clear hcz3_1
  try clear hfz3_0
  try clear hfz3_1
  obtain ⟨x3_1,x9_1,rfl,rfl,HA,HK1,BK280,HB⟩:=hrel
  cases gk with
  | zero => exact absurd HA.out (by simp [impl_SizeOf.l0])
  | succ k1 =>
   have H:=HA.out
   clear HA
   simp only [impl_SizeOf.l0] at H
   by_cases c4 : x9_1 < (l0_1.length : Int)
   ·
    rw [if_pos c4] at H
    have c4b0 : decide (x9_1 < (l0_1.length : Int)) = true:=decide_eq_true c4
    clear c4
    by_cases c5 : 0 ≤ x9_1
    ·
     rw [if_pos c5] at H
     have c5b0 : decide (0 ≤ x9_1) = true:=decide_eq_true c5
     clear c5
     by_cases c6 : x9_1 < (l0_1.length : Int)
     ·
      rw [if_pos c6] at H
      have c6b0 : decide (x9_1 < (l0_1.length : Int)) = true:=decide_eq_true c6
      clear c6
      replace H:=zq1_ H
      obtain ⟨t283,A70,H⟩:=H
      replace H : (impl_SizeOf.l0 k1 (wrap64 (x3_1 + t283)) l0_1 (l0_1.length : Int) (wrap64 (x9_1 + 1))) = some r:=H
      have A7:=zm0_ A70
      clear A70
      have H':=zm0_ H
      clear H
      have p281 : 0 ≤ (x9_1 : Int):=of_decide_eq_true (by first|(with_reducible assumption)|assumption)
      have q281 : x9_1 < (l0_1.length : Int):=of_decide_eq_true (by first|(with_reducible assumption)|assumption)
      obtain ⟨ad281,e281,hx281_0,hx281_1⟩:=at_T36 HR0_1.out x9_1 p281 q281
      cases e281
      replace hx281_0:=(HB.out.cell (zq2_ w _ hx281_0)).trans hx281_0
      replace hx281_1:=(HB.out.cell (zq2_ w _ hx281_1)).trans hx281_1
      replace p281:=eq_true p281
      replace q281:=eq_true q281
      go_wp2_with (first|((with_reducible refine gate_dst (N:=5) rfl ?_);refine box_event ?hg (N:=5) ?hd (cs:=#[.string (⟨#[]⟩ : ByteArray),.string (⟨#[]⟩ : ByteArray)]) (t:=36) ?hr ?_;(case hd => rfl);(case hg => rfl);(case hr => first|(go_simp;done)|(go_simp;rfl));intro gb282 hg w8 hbox hb;have BK282:=zm0_ (hbox);have GW282:=zm0_ ((by rw [hg];exact (zn9_ (zl1 HB GE280)) : w.heap.size ≤ gb282));have GE282:=zm0_ ((by rw [hg];exact (zn9_ (zl1 HB GE280)) : w.heap.size ≤ gb282));replace HB:=zm0_ (zn8_ (zl1 HB GE280) hb);have NB280_282:=zm0_ ((by rw [hg];exact Nat.ne_of_lt (zo3_ (g:=gb280) (o:=.cells #[.int .i64 a0_0,.slice (some ad281) l0_1.length c0_1] 32 (0,0)) (zb BK280)) : gb280 ≠ gb282));have NB282_280:=zm0_ ((by rw [hg];exact Nat.ne_of_gt (zo3_ (g:=gb280) (o:=.cells #[.int .i64 a0_0,.slice (some ad281) l0_1.length c0_1] 32 (0,0)) (zb BK280)) : gb282 ≠ gb280));replace BK280:=zm0_ (zm5_ (zb BK280) hb);clear hb hbox hg;have hnb9:=NB282_280.out;have hnc9:=NB280_282.out;have hcz10_0 : w8.cell? ⟨gb282,0,none⟩ = some (.string (⟨#[]⟩ : ByteArray)):=(zm6_ BK282.out 0).trans rfl;have hcz10_1 : w8.cell? ⟨gb282,1,none⟩ = some (.string (⟨#[]⟩ : ByteArray)):=(zm6_ BK282.out 1).trans rfl;have hfz10_0:=zm7_ BK282.out 0;have hfz10_1:=zm7_ BK282.out 1)|((with_reducible refine gate_callee (f:=52) rfl ?_);refine goesL_ (some 15) rfl rfl Tryz.func52 (by kernel_rfl) rfl #[.agg #[.string ((rd_T36 l0_1 x9_1).f0),.string ((rd_T36 l0_1 x9_1).f1)]] rfl zy ?_;(with_reducible refine (impl_sizeOf.calls ((rd_T36 l0_1 x9_1).f0) ((rd_T36 l0_1 x9_1).f1) t283 _ A7.out).mono ?_);rintro e w11 ⟨rfl,hb⟩;refine ⟨_,rfl,?_⟩;replace BK280:=zm0_ (zm5_ (g:=gb280) (o:=.cells #[.int .i64 a0_0,.slice (some ad281) l0_1.length c0_1] 32 (0,0)) (by (with_reducible repeat (first|refine k6_ ?_ _|refine k7_ ?_|refine k5_ ?_ _));refine blk_far ?_ NB280_282.out _;(with_reducible repeat (first|refine k6_ ?_ _|refine k7_ ?_|refine k5_ ?_ _));refine blk_far ?_ NB280_282.out _;(with_reducible repeat (first|refine k6_ ?_ _|refine k7_ ?_|refine k5_ ?_ _));exact BK280.out) hb);replace BK282:=zm0_ (zm5_ (g:=gb282) (o:=.cells #[.string ((rd_T36 l0_1 x9_1).f0),.string ((rd_T36 l0_1 x9_1).f1)] 36 (0,0)) (by (with_reducible repeat (first|refine k6_ ?_ _|refine k7_ ?_|refine k5_ ?_ _));refine blk_put (cs:=#[.string ((rd_T36 l0_1 x9_1).f0),.string (⟨#[]⟩ : ByteArray)]) ?_ 1 _ rfl;(with_reducible repeat (first|refine k6_ ?_ _|refine k7_ ?_|refine k5_ ?_ _));refine blk_put (cs:=#[.string (⟨#[]⟩ : ByteArray),.string (⟨#[]⟩ : ByteArray)]) ?_ 0 _ rfl;(with_reducible repeat (first|refine k6_ ?_ _|refine k7_ ?_|refine k5_ ?_ _));exact BK282.out) hb);replace HB:=zm0_ (zn8_ (zl2 HB GE280 GE282) hb);(try clear hb);(try clear hb2);(try clear hk);(try clear hi)))
      go_roundg k1
      case measure => have:=HK1.out;omega
      case rel => exact ⟨(wrap64 (x3_1 + t283)),(wrap64 (x9_1 + 1)),zz,zz,H',⟨by have:=HK1.out;omega⟩,⟨zb BK280⟩,⟨zl2 HB GE280 GE282⟩⟩
     ·
      rw [if_neg c6] at H
      exact absurd H (by simp)
    ·
     rw [if_neg c5] at H
     exact absurd H (by simp)
   ·
    rw [if_neg c4] at H
    have c4b0 : decide (x9_1 < (l0_1.length : Int)) = false:=decide_eq_false c4
    clear c4
    obtain rfl:=Option.some.inj H
    go_wp2
    go_ret
    exact ⟨ze,by repeat (first|(with_reducible first|exact HB.out|apply zm3_|apply zm2_|apply zm4_|refine zm1_ ?_ GE280.out)|exact HB.out)⟩
end Go.Proofs.YthflimnpiglgbaaGreatDoor.A
end
section
namespace Go.Proofs.YthflimnpiglgbaaGreatDoor.A
open Go.RowKit Go.Proofs.YthflimnpiglgbaaGreatDoorW.PrintWords Go.Proofs.YthflimnpiglgbaaGreatDoorW.PrintLast Go.Proofs.YthflimnpiglgbaaGreatDoorW.PrintMore
attribute [local go_sem] max2_int min2_int max_two min_two max_three min_three max_four min_four   -- for this text's walks alone
set_option linter.unusedVariables false
set_option linter.unusedSimpArgs false

def impl_TableOk.f (k : Nat) (a0_0 : Int) (l0_1 : List (S36)) : Option (Bool):=(impl_inRange.f a0_0 0 4096).bind fun t285 => (if t285 = true then ((impl_SizeOf.f k a0_0 l0_1).bind fun t286 => (some (decide (t286 ≤ a0_0)))) else (some false))
theorem impl_TableOk.mono : ∀ a0 a1 k,LeO (impl_TableOk.f k a0 a1) (impl_TableOk.f (k + 1) a0 a1):=by
 intro a0 a1 k
 unfold impl_TableOk.f
 repeat' first
  | (with_reducible exact impl_SizeOf.mono _ _ _)
  | (with_reducible exact LeO.refl _)
  | (with_reducible exact LeO.none _)
  | (with_reducible refine LeO.ite ?_ ?_)
  | (with_reducible refine LeO.bind ?_ (fun _ => ?_))
  | exact impl_SizeOf.mono _ _ _
  | exact LeO.none _
  | refine LeO.ite ?_ ?_
  | refine LeO.bind ?_ (fun _ => ?_)
def impl_TableOk.T1 : Bool × List (List Nat × List Nat):=(true,[([],[]),([0],[0]),([1],[1]),([2,2],[2]),([3],[3]),([4,3,3],[3,4]),([3],[3]),([6,3],[3,6]),([5,7,3],[3,5,7]),([3,8],[3,8]),([9,5,0,1,2,3,4,5,6,7,8,9],[9])])
def impl_TableOk.B1 : List Nat:=[0,1,3,7,15,31,15,79,255,511,1023]
theorem impl_TableOk.tab1 : rtab .any (opsOf Tryz.f33 1) = impl_TableOk.T1:=by kernel_rfl
theorem impl_TableOk.bits1 : waitsOk impl_TableOk.T1.2 impl_TableOk.B1 = true:=by kernel_rfl
set_option maxHeartbeats 8000000 in
set_option maxRecDepth 100000 in
theorem impl_TableOk.calls (k : Nat) (a0_0 : Int) (A0_1 : Option Addr) (c0_1 : Nat) (l0_1 : List (S36)) (r : Bool) (w : World) (hr0_1 : Kd.C k36 w A0_1 l0_1.length l0_1) (hc0_1 : l0_1.length ≤ c0_1) (h : impl_TableOk.f k a0_0 l0_1 = some r) :
 Calls Tryz.prog 33 #[.agg #[.int .i64 a0_0,.slice A0_1 l0_1.length c0_1]] w fun e w' => e = .returned (.bool r) ∧ Below w.heap.size w w':=by
 have hu32:=Tryz.underlying32
 have HR0_1:=zm0_ hr0_1
 have HC0_1:=zm0_ hc0_1
 clear hr0_1 hc0_1
 have HB:=zm0_ (Below.refl w.heap.size w)
 have H : ((impl_inRange.f a0_0 0 4096).bind fun t285 => (if t285 = true then ((impl_SizeOf.f k a0_0 l0_1).bind fun t286 => (some (decide (t286 ≤ a0_0)))) else (some false))) = some r:=h
 clear h
 replace H:=zq1_ H
 obtain ⟨t285,A20,H⟩:=H
 replace H : (if t285 = true then ((impl_SizeOf.f k a0_0 l0_1).bind fun t286 => (some (decide (t286 ≤ a0_0)))) else (some false)) = some r:=H
 have A2:=zm0_ A20
 clear A20
 by_cases c3 : t285 = true
 ·
  subst c3
  rw [if_pos rfl] at H
  replace H:=zq1_ H
  obtain ⟨t286,A40,H⟩:=H
  replace H : (some (decide (t286 ≤ a0_0))) = some r:=H
  have A4:=zm0_ A40
  clear A40
  obtain rfl:=Option.some.inj H
  go_enter Tryz.func33,Tryz.ntmps33
  try go_wp2_with (first|((with_reducible refine gate_dst (N:=1) rfl ?_);refine box_event ?hg (N:=1) ?hd (cs:=#[.int .i64 a0_0,.slice A0_1 l0_1.length c0_1]) (t:=32) ?hr ?_;(case hd => rfl);(case hg => rfl);(case hr => first|(go_simp;done)|(go_simp;rfl));intro gb284 hg w5 hbox hb;have BK284:=zm0_ (hbox);have GW284:=zm0_ ((by rw [hg];exact (zn9_ (zl HB)) : w.heap.size ≤ gb284));have GE284:=zm0_ ((by rw [hg];exact (zn9_ (zl HB)) : w.heap.size ≤ gb284));replace HB:=zm0_ (zn8_ (zl HB) hb);clear hb hbox hg))
  replace BK284:=zm0_ (k7_ BK284.out)
  replace HB:=zm0_ (zm4_ HB.out)
  refine start_ (n:=11) (S:=fun w' => w'.cell? ⟨gb284,0,none⟩ = some (.int .i64 a0_0) ∧ w'.cell? ⟨gb284,1,none⟩ = some (.slice A0_1 l0_1.length c0_1)) (ds:=[]) #[Z,Z,Z,Z,Z,Z,Z,Z,Z,Z,Z] (by kernel_rfl) rfl rfl ⟨(zm6_ BK284.out 0).trans rfl,(zm6_ BK284.out 1).trans rfl⟩ (fun hHeld => ?_);refine with_tabW impl_TableOk.tab1 impl_TableOk.bits1 (fun HT_ HW_ => ?_)
  generalize w5.drew = w6 at BK284 HB hHeld ⊢
  refine pure_ (i:=0) (N:=some 3) (v:=?_) (a':=?_) #[Y,Z,Z,Z,Z,Z,Z,Z,Z,Z,Z] rfl rfl (any_of HT_.out (by kernel_rfl)) (fun _ _ _ h => h) (Or.inl ⟨by rfl,?_⟩) ?_ ?_
  rotate_left
  ·
   intro w'
   go_simp
   with_reducible rfl
  rotate_left
  ·
   simp only [Act.put,lA_,lB_,lC_,i64_w,i32_w]
   rfl
  refine take_ (i:=1) (N:=some 4) (v:=?_) (a':=?_) #[Y,Y,Z,Z,Z,Z,Z,Z,Z,Z,Z] rfl rfl (take_ofW HT_.out HW_.out (by kernel_rfl)) (fun _ _ _ h => h) (Or.inl ⟨by rfl,?_⟩) hHeld ?_ ?_
  rotate_left
  ·
   rintro w' ⟨s0,s1⟩
   go_simp
   with_reducible rfl
  rotate_left
  ·
   simp only [Act.put,lA_,lB_,lC_,i64_w,i32_w]
   rfl
  refine one_ (i:=2) (N:=some 5) #[Y,Y,Y,Z,Z,Z,Z,Z,Z,Z,Z] rfl rfl (one_of HT_.out (by kernel_rfl)) (by decide) (fun K hK => ?_)
  refine goes_ Tryz.func32 (by kernel_rfl) rfl #[.int .i64 a0_0,.int .i64 0,.int .i64 4096] (by rfl) rfl rfl zy ?_
  with_reducible refine (impl_inRange.calls a0_0 0 4096 true _ A2.out).mono ?_
  rintro e w' ⟨rfl,⟨nd,rfl⟩⟩
  refine ⟨_,rfl,?_⟩
  refine hK.out _ _ ⟨(zm6_ BK284.out 0).trans rfl,(zm6_ BK284.out 1).trans rfl⟩ (fun hHeld => ?_)
  clear hK K
  refine norm_ (a':=?_) ?_ ?_
  rotate_left
  ·
   show Act.put _ (some 5) _ = _
   simp only [Act.put,lA_,lB_,lC_,i64_w,i32_w]
   rfl
  refine pure_ (i:=3) (N:=some 6) (v:=?_) (a':=?_) #[Y,Y,Y,Y,Z,Z,Z,Z,Z,Z,Z] rfl rfl (any_of HT_.out (by kernel_rfl)) (fun _ _ _ h => h) (Or.inl ⟨by rfl,?_⟩) ?_ ?_
  rotate_left
  ·
   intro w'
   go_simp
   with_reducible rfl
  rotate_left
  ·
   simp only [Act.put,lA_,lB_,lC_,i64_w,i32_w]
   rfl
  refine pure_ (i:=6) (N:=some 9) (v:=?_) (a':=?_) #[Y,Y,Y,Y,Z,Z,Y,Z,Z,Z,Z] rfl rfl (any_of HT_.out (by kernel_rfl)) (fun _ _ _ h => h) (Or.inl ⟨by rfl,?_⟩) ?_ ?_
  rotate_left
  ·
   intro w'
   go_simp
   with_reducible rfl
  rotate_left
  ·
   simp only [Act.put,lA_,lB_,lC_,i64_w,i32_w]
   rfl
  refine take_ (i:=4) (N:=some 7) (v:=?_) (a':=?_) #[Y,Y,Y,Y,Y,Z,Y,Z,Z,Z,Z] rfl rfl (take_ofW HT_.out HW_.out (by kernel_rfl)) (fun _ _ _ h => h) (Or.inl ⟨by rfl,?_⟩) hHeld ?_ ?_
  rotate_left
  ·
   rintro w' ⟨s0,s1⟩
   go_simp
   with_reducible rfl
  rotate_left
  ·
   simp only [Act.put,lA_,lB_,lC_,i64_w,i32_w]
   rfl
  refine take_ (i:=7) (N:=some 10) (v:=?_) (a':=?_) #[Y,Y,Y,Y,Y,Z,Y,Y,Z,Z,Z] rfl rfl (take_ofW HT_.out HW_.out (by kernel_rfl)) (fun _ _ _ h => h) (Or.inl ⟨by rfl,?_⟩) hHeld ?_ ?_
  rotate_left
  ·
   rintro w' ⟨s0,s1⟩
   go_simp
   with_reducible rfl
  rotate_left
  ·
   simp only [Act.put,lA_,lB_,lC_,i64_w,i32_w]
   rfl
  refine one_ (i:=5) (N:=some 8) #[Y,Y,Y,Y,Y,Y,Y,Y,Z,Z,Z] rfl rfl (one_of HT_.out (by kernel_rfl)) (by decide) (fun K hK => ?_)
  refine goes_ Tryz.func43 (by kernel_rfl) rfl #[.agg #[.int .i64 a0_0,.slice A0_1 l0_1.length c0_1]] (by rfl) rfl rfl zy ?_
  with_reducible refine (impl_SizeOf.calls k a0_0 _ _ l0_1 t286 _ ?side1 ?side2 A4.out).mono ?_
  (case side1 => repeat (first|exact (Kd.C_below HR0_1.out (zl1 HB GE284))|(with_reducible refine Kd.C_alloc ?_ _)|(with_reducible refine Kd.C_drewN ?_ _)|(with_reducible refine Kd.C_drew ?_)))
  (case side2 => exact HC0_1.out)
  rintro e w7 ⟨rfl,hb⟩
  refine ⟨_,rfl,?_⟩
  replace BK284:=zm0_ (zm5_ (zb BK284) hb)
  replace HB:=zm0_ (zn8_ (zl1 HB GE284) hb)
  (try clear hb)
  (try clear hb2)
  (try clear hk)
  (try clear hi)
  refine hK.out _ _ ⟨(zm6_ BK284.out 0).trans rfl,(zm6_ BK284.out 1).trans rfl⟩ (fun hHeld => ?_)
  clear hK K
  refine norm_ (a':=?_) ?_ ?_
  rotate_left
  ·
   show Act.put _ (some 8) _ = _
   simp only [Act.put,lA_,lB_,lC_,i64_w,i32_w]
   rfl
  refine pure_ (i:=8) (N:=some 11) (v:=?_) (a':=?_) #[Y,Y,Y,Y,Y,Y,Y,Y,Y,Z,Z] rfl rfl (any_of HT_.out (by kernel_rfl)) (fun _ _ _ h => h) (Or.inl ⟨by rfl,?_⟩) ?_ ?_
  rotate_left
  ·
   intro w'
   go_simp
   with_reducible rfl
  rotate_left
  ·
   simp only [Act.put,lA_,lB_,lC_,i64_w,i32_w]
   rfl
  refine pure_ (i:=9) (N:=some 12) (v:=?_) (a':=?_) #[Y,Y,Y,Y,Y,Y,Y,Y,Y,Y,Z] rfl rfl (any_of HT_.out (by kernel_rfl)) (fun _ _ _ h => h) (Or.inl ⟨by rfl,?_⟩) ?_ ?_
  rotate_left
  ·
   intro w'
   go_simp
   with_reducible rfl
  rotate_left
  ·
   simp only [Act.put,lA_,lB_,lC_,i64_w,i32_w]
   rfl
  refine pure_ (i:=10) (N:=some 2) (v:=?_) (a':=?_) #[Y,Y,Y,Y,Y,Y,Y,Y,Y,Y,Y] rfl rfl (any_of HT_.out (by kernel_rfl)) (fun _ _ _ h => h) (Or.inl ⟨by rfl,?_⟩) ?_ ?_
  rotate_left
  ·
   intro w'
   go_simp
   with_reducible rfl
  rotate_left
  ·
   simp only [Act.put,lA_,lB_,lC_,i64_w,i32_w]
   rfl
  refine done_ (done_of HT_.out (by kernel_rfl)) ?_
  try go_wp2
  go_ret
  exact ⟨ze,by repeat (first|(with_reducible first|exact HB.out|apply zm3_|apply zm2_|apply zm4_|refine zm1_ ?_ GE284.out)|exact HB.out)⟩
 ·
  replace c3:=Bool.eq_false_iff.mpr c3
  subst c3
  rw [if_neg (show ¬ (false = true) by decide)] at H
  obtain rfl:=Option.some.inj H
  go_enter Tryz.func33,Tryz.ntmps33
  try go_wp2_with (first|((with_reducible refine gate_dst (N:=1) rfl ?_);refine box_event ?hg (N:=1) ?hd (cs:=#[.int .i64 a0_0,.slice A0_1 l0_1.length c0_1]) (t:=32) ?hr ?_;(case hd => rfl);(case hg => rfl);(case hr => first|(go_simp;done)|(go_simp;rfl));intro gb284 hg w8 hbox hb;have BK284:=zm0_ (hbox);have GW284:=zm0_ ((by rw [hg];exact (zn9_ (zl HB)) : w.heap.size ≤ gb284));have GE284:=zm0_ ((by rw [hg];exact (zn9_ (zl HB)) : w.heap.size ≤ gb284));replace HB:=zm0_ (zn8_ (zl HB) hb);clear hb hbox hg))
  replace BK284:=zm0_ (k7_ BK284.out)
  replace HB:=zm0_ (zm4_ HB.out)
  refine start_ (n:=11) (S:=fun w' => w'.cell? ⟨gb284,0,none⟩ = some (.int .i64 a0_0) ∧ w'.cell? ⟨gb284,1,none⟩ = some (.slice A0_1 l0_1.length c0_1)) (ds:=[]) #[Z,Z,Z,Z,Z,Z,Z,Z,Z,Z,Z] (by kernel_rfl) rfl rfl ⟨(zm6_ BK284.out 0).trans rfl,(zm6_ BK284.out 1).trans rfl⟩ (fun hHeld => ?_);refine with_tabW impl_TableOk.tab1 impl_TableOk.bits1 (fun HT_ HW_ => ?_)
  generalize w8.drew = w9 at BK284 HB hHeld ⊢
  refine pure_ (i:=0) (N:=some 3) (v:=?_) (a':=?_) #[Y,Z,Z,Z,Z,Z,Z,Z,Z,Z,Z] rfl rfl (any_of HT_.out (by kernel_rfl)) (fun _ _ _ h => h) (Or.inl ⟨by rfl,?_⟩) ?_ ?_
  rotate_left
  ·
   intro w'
   go_simp
   with_reducible rfl
  rotate_left
  ·
   simp only [Act.put,lA_,lB_,lC_,i64_w,i32_w]
   rfl
  refine take_ (i:=1) (N:=some 4) (v:=?_) (a':=?_) #[Y,Y,Z,Z,Z,Z,Z,Z,Z,Z,Z] rfl rfl (take_ofW HT_.out HW_.out (by kernel_rfl)) (fun _ _ _ h => h) (Or.inl ⟨by rfl,?_⟩) hHeld ?_ ?_
  rotate_left
  ·
   rintro w' ⟨s0,s1⟩
   go_simp
   with_reducible rfl
  rotate_left
  ·
   simp only [Act.put,lA_,lB_,lC_,i64_w,i32_w]
   rfl
  refine one_ (i:=2) (N:=some 5) #[Y,Y,Y,Z,Z,Z,Z,Z,Z,Z,Z] rfl rfl (one_of HT_.out (by kernel_rfl)) (by decide) (fun K hK => ?_)
  refine goes_ Tryz.func32 (by kernel_rfl) rfl #[.int .i64 a0_0,.int .i64 0,.int .i64 4096] (by rfl) rfl rfl zy ?_
  with_reducible refine (impl_inRange.calls a0_0 0 4096 false _ A2.out).mono ?_
  rintro e w' ⟨rfl,⟨nd,rfl⟩⟩
  refine ⟨_,rfl,?_⟩
  refine hK.out _ _ ⟨(zm6_ BK284.out 0).trans rfl,(zm6_ BK284.out 1).trans rfl⟩ (fun hHeld => ?_)
  clear hK K
  refine norm_ (a':=?_) ?_ ?_
  rotate_left
  ·
   show Act.put _ (some 5) _ = _
   simp only [Act.put,lA_,lB_,lC_,i64_w,i32_w]
   rfl
  refine pure_ (i:=3) (N:=some 6) (v:=?_) (a':=?_) #[Y,Y,Y,Y,Z,Z,Z,Z,Z,Z,Z] rfl rfl (any_of HT_.out (by kernel_rfl)) (fun _ _ _ h => h) (Or.inl ⟨by rfl,?_⟩) ?_ ?_
  rotate_left
  ·
   intro w'
   go_simp
   with_reducible rfl
  rotate_left
  ·
   simp only [Act.put,lA_,lB_,lC_,i64_w,i32_w]
   rfl
  refine pure_ (i:=4) (N:=some 7) (v:=undef) (a':=?_) #[Y,Y,Y,Y,Y,Z,Z,Z,Z,Z,Z] rfl rfl (any_of HT_.out (by kernel_rfl)) (fun _ _ _ h => h) (Or.inr ⟨by rfl,rfl⟩) ?_ ?_
  rotate_left
  ·
   simp only [Act.put,lA_,lB_,lC_,i64_w,i32_w]
   rfl
  refine pure_ (i:=5) (N:=some 8) (v:=undef) (a':=?_) #[Y,Y,Y,Y,Y,Y,Z,Z,Z,Z,Z] rfl rfl (any_of HT_.out (by kernel_rfl)) (fun _ _ _ h => h) (Or.inr ⟨by rfl,rfl⟩) ?_ ?_
  rotate_left
  ·
   simp only [Act.put,lA_,lB_,lC_,i64_w,i32_w]
   rfl
  refine pure_ (i:=6) (N:=some 9) (v:=undef) (a':=?_) #[Y,Y,Y,Y,Y,Y,Y,Z,Z,Z,Z] rfl rfl (any_of HT_.out (by kernel_rfl)) (fun _ _ _ h => h) (Or.inr ⟨by rfl,rfl⟩) ?_ ?_
  rotate_left
  ·
   simp only [Act.put,lA_,lB_,lC_,i64_w,i32_w]
   rfl
  refine pure_ (i:=7) (N:=some 10) (v:=undef) (a':=?_) #[Y,Y,Y,Y,Y,Y,Y,Y,Z,Z,Z] rfl rfl (any_of HT_.out (by kernel_rfl)) (fun _ _ _ h => h) (Or.inr ⟨by rfl,rfl⟩) ?_ ?_
  rotate_left
  ·
   simp only [Act.put,lA_,lB_,lC_,i64_w,i32_w]
   rfl
  refine pure_ (i:=8) (N:=some 11) (v:=undef) (a':=?_) #[Y,Y,Y,Y,Y,Y,Y,Y,Y,Z,Z] rfl rfl (any_of HT_.out (by kernel_rfl)) (fun _ _ _ h => h) (Or.inr ⟨by rfl,rfl⟩) ?_ ?_
  rotate_left
  ·
   simp only [Act.put,lA_,lB_,lC_,i64_w,i32_w]
   rfl
  refine pure_ (i:=9) (N:=some 12) (v:=?_) (a':=?_) #[Y,Y,Y,Y,Y,Y,Y,Y,Y,Y,Z] rfl rfl (any_of HT_.out (by kernel_rfl)) (fun _ _ _ h => h) (Or.inl ⟨by rfl,?_⟩) ?_ ?_
  rotate_left
  ·
   intro w'
   go_simp
   with_reducible rfl
  rotate_left
  ·
   simp only [Act.put,lA_,lB_,lC_,i64_w,i32_w]
   rfl
  refine pure_ (i:=10) (N:=some 2) (v:=?_) (a':=?_) #[Y,Y,Y,Y,Y,Y,Y,Y,Y,Y,Y] rfl rfl (any_of HT_.out (by kernel_rfl)) (fun _ _ _ h => h) (Or.inl ⟨by rfl,?_⟩) ?_ ?_
  rotate_left
  ·
   intro w'
   go_simp
   with_reducible rfl
  rotate_left
  ·
   simp only [Act.put,lA_,lB_,lC_,i64_w,i32_w]
   rfl
  refine done_ (done_of HT_.out (by kernel_rfl)) ?_
  try go_wp2
  go_ret
  exact ⟨ze,by repeat (first|(with_reducible first|exact HB.out|apply zm3_|apply zm2_|apply zm4_|refine zm1_ ?_ GE284.out)|exact HB.out)⟩
end Go.Proofs.YthflimnpiglgbaaGreatDoor.A
end
section
namespace Go.Proofs.YthflimnpiglgbaaGreatDoor.A
open Go.RowKit Go.Proofs.YthflimnpiglgbaaGreatDoorW.PrintWords Go.Proofs.YthflimnpiglgbaaGreatDoorW.PrintLast Go.Proofs.YthflimnpiglgbaaGreatDoorW.PrintMore
attribute [local go_sem] max2_int min2_int max_two min_two max_three min_three max_four min_four   -- for this text's walks alone
set_option linter.unusedVariables false
set_option linter.unusedSimpArgs false

/-- slices.Grow of a nil row: a row of no elements,in new memory,or nil. -/
def impl_Field_60.f (l0 : List S36) (a1 : Int) : Option (List S36):=if l0.length = 0 ∧ 0 ≤ a1 ∧ a1 ≤ 1099511627776 then some [] else none
set_option maxHeartbeats 8000000 in
set_option maxRecDepth 100000 in
theorem impl_Field_60.calls (A0 : Option Addr) (c0 : Nat) (l0 : List S36) (a1 : Int) (r : List S36) (w : World) (hr0 : Kd.C k36 w A0 l0.length l0) (hc0 : l0.length ≤ c0) (hz : A0 = none ∧ c0 = 0) (h : impl_Field_60.f l0 a1 = some r) : Calls Tryz.prog 60 #[.slice A0 l0.length c0,.int .i64 a1] w fun e w' => ∃ v0_ : Value,e = .returned v0_ ∧ Kd.R k36 36 w' w.heap.size (fun _ => True) v0_ r ∧ Below w.heap.size w w':=by
 obtain ⟨rfl,rfl⟩:=hz
 unfold impl_Field_60.f at h
 by_cases hh : l0.length = 0 ∧ 0 ≤ a1 ∧ a1 ≤ 1099511627776
 ·
  rw [if_pos hh] at h
  obtain rfl:=Option.some.inj h
  obtain ⟨h1,h2,h3⟩:=hh
  rw [h1]
  clear hr0 hc0 h h1
  obtain ⟨n,rfl⟩ : ∃ n : Nat,a1 = (n : Int):=⟨a1.toNat,by omega⟩
  have hw0 : wrap64 ((0 : Int) - 0) = 0:=by unfold wrap64;omega
  have hwn : wrap64 ((n : Int) - 0) = (n : Int):=by unfold wrap64;omega
  have c1 : ¬ ((n : Int) < 0):=by omega
  rcases Nat.eq_zero_or_pos n with hn|hn
  ·
   subst hn
   go_enter Tryz.func60,Tryz.ntmps60
   go_wp2
   go_ret
   exact ⟨_,rfl,Kd.R_nil _ _ _ _ _,Below.refl _ _⟩
  ·
   have c2 : ((n : Int) > 0):=by omega
   obtain ⟨i,hi,hz,hsz,hby⟩:=info_parts info36
   have happ:=Lib.run_append_nil_zeros (P:=Tryz.prog) w 30 3 30 36 i _ .i64 .i64 Tryz.underlying30 Tryz.underlying3 hi hz n hn (by rw [hsz];omega) (by omega) (by rw [hby];omega)
   generalize hcap : grownCap w n 0 36 = cap at happ
   have g1 : n ≤ cap:=by rw [← hcap];exact grownCap_ge w n 0 36
   have g2 : cap ≤ maxLen:=by rw [← hcap];exact grownCap_le_maxLen w n 0 36 (by unfold maxLen;omega)
   generalize hZ : (Builtin.zeroCells (Value.cells (.agg #[(.string ⟨#[]⟩),(.string ⟨#[]⟩)])) n ++ Builtin.zeroCells (Value.cells (.agg #[(.string ⟨#[]⟩),(.string ⟨#[]⟩)])) (cap - n)) = Z at happ
   have hZs : Z.size = cap * 2:=by rw [← hZ];simp [size_zeroCells,Value.cells];omega
   clear hcap hZ
   go_enter Tryz.func60,Tryz.ntmps60
   go_wp2_with (at_builtin;refine Lib.wpList_append_run _ rfl _ _ _ _ rfl _ _ rfl rfl _ _ happ ?_)
   go_ret
   refine ⟨_,rfl,⟨fun k hk => trivial,[],⟨rfl,.inr ⟨w.heap.size,cap,Z,rfl,Nat.le_refl _,heap_alloc_new _ _,Nat.zero_le _,g2,hZs,by simp⟩⟩,⟨rfl,fun j p hj => by simp at hj⟩⟩,?_⟩
   exact ((Below.refl w.heap.size w).drew).alloc (Nat.le_refl _) _
 ·
  rw [if_neg hh] at h
  cases h
end Go.Proofs.YthflimnpiglgbaaGreatDoor.A
end
section
namespace Go.Proofs.YthflimnpiglgbaaGreatDoor.A
open Go.RowKit Go.Proofs.YthflimnpiglgbaaGreatDoorW.PrintWords Go.Proofs.YthflimnpiglgbaaGreatDoorW.PrintLast Go.Proofs.YthflimnpiglgbaaGreatDoorW.PrintMore
attribute [local go_sem] max2_int min2_int max_two min_two max_three min_three max_four min_four   -- for this text's walks alone
set_option linter.unusedVariables false
set_option linter.unusedSimpArgs false

mutual
def impl_Field_53.l0 : Nat → List (List (S36)) → Int → List (List (S36)) → Int → Int → Option ((List (S36)))
 | 0,_,_,_,_,_ => none
 | k + 1,x0,x3,x9,x10,x11 => if x11 < x10 then (if 0 ≤ x11 then (if x11 < (x9.length : Int) then (if (wrap64 (x3 + ((rd_L5 x9 x11).length : Int))) < 0 then (none) else (impl_Field_53.l0 k x0 (wrap64 (x3 + ((rd_L5 x9 x11).length : Int))) x9 x10 (wrap64 (x11 + 1)))) else (none)) else (none)) else ((impl_Field_60.f ([] : List (S36)) x3).bind fun t288 => (impl_Field_53.l1 k t288 x0 (x0.length : Int) 0))
def impl_Field_53.l1 : Nat → List (S36) → List (List (S36)) → Int → Int → Option ((List (S36)))
 | 0,_,_,_,_ => none
 | k + 1,x6,x25,x26,x27 => if x27 < x26 then (if 0 ≤ x27 then (if x27 < (x25.length : Int) then (if x6.length + (rd_L5 x25 x27).length < 4398046511104 then (impl_Field_53.l1 k (x6 ++ (rd_L5 x25 x27)) x25 x26 (wrap64 (x27 + 1))) else (none)) else (none)) else (none)) else (some x6)
end
def impl_Field_53.f (k : Nat) (l0 : List (List (S36))) : Option ((List (S36))):=impl_Field_53.l0 k l0 0 l0 (l0.length : Int) 0
theorem impl_Field_53.mono_l : ∀ k,(∀ y0 y1 y2 y3 y4,LeO (impl_Field_53.l0 k y0 y1 y2 y3 y4) (impl_Field_53.l0 (k + 1) y0 y1 y2 y3 y4)) ∧ (∀ y0 y1 y2 y3,LeO (impl_Field_53.l1 k y0 y1 y2 y3) (impl_Field_53.l1 (k + 1) y0 y1 y2 y3))
 | 0 => ⟨fun _ _ _ _ _ r h => by simp [impl_Field_53.l0] at h,fun _ _ _ _ r h => by simp [impl_Field_53.l1] at h⟩
 | k + 1 => by
  obtain ⟨ih0,ih1⟩:=impl_Field_53.mono_l k
  refine ⟨?_,?_⟩
  ·
   intro y0 y1 y2 y3 y4
   unfold impl_Field_53.l0
   repeat' first
   | (with_reducible exact ih0 _ _ _ _ _)
   | (with_reducible exact ih1 _ _ _ _)
   | (with_reducible exact LeO.refl _)
   | (with_reducible exact LeO.none _)
   | (with_reducible refine LeO.ite ?_ ?_)
   | (with_reducible refine LeO.bind ?_ (fun _ => ?_))
   | exact ih0 _ _ _ _ _
   | exact ih1 _ _ _ _
   | exact LeO.none _
   | refine LeO.ite ?_ ?_
   | refine LeO.bind ?_ (fun _ => ?_)
  ·
   intro y0 y1 y2 y3
   unfold impl_Field_53.l1
   repeat' first
   | (with_reducible exact ih0 _ _ _ _ _)
   | (with_reducible exact ih1 _ _ _ _)
   | (with_reducible exact LeO.refl _)
   | (with_reducible exact LeO.none _)
   | (with_reducible refine LeO.ite ?_ ?_)
   | (with_reducible refine LeO.bind ?_ (fun _ => ?_))
   | exact ih0 _ _ _ _ _
   | exact ih1 _ _ _ _
   | exact LeO.none _
   | refine LeO.ite ?_ ?_
   | refine LeO.bind ?_ (fun _ => ?_)
theorem impl_Field_53.mono : ∀ a0 k,LeO (impl_Field_53.f k a0) (impl_Field_53.f (k + 1) a0):=by
 intro a0 k
 obtain ⟨ih0,ih1⟩:=impl_Field_53.mono_l k
 unfold impl_Field_53.f
 repeat' first
  | (with_reducible exact ih0 _ _ _ _ _)
  | (with_reducible exact ih1 _ _ _ _)
  | (with_reducible exact LeO.refl _)
  | (with_reducible exact LeO.none _)
  | (with_reducible refine LeO.ite ?_ ?_)
  | (with_reducible refine LeO.bind ?_ (fun _ => ?_))
  | exact ih0 _ _ _ _ _
  | exact ih1 _ _ _ _
  | exact LeO.none _
  | refine LeO.ite ?_ ?_
  | refine LeO.bind ?_ (fun _ => ?_)
set_option maxHeartbeats 8000000 in
set_option maxRecDepth 100000 in
theorem impl_Field_53.calls (k : Nat) (A0 : Option Addr) (c0 : Nat) (l0 : List (List (S36))) (r : List (S36)) (w : World) (hr0 : Kd.C (Kd.slice 36 k36) w A0 l0.length l0) (hc0 : l0.length ≤ c0) (h : impl_Field_53.f k l0 = some r) :
 Calls Tryz.prog 53 #[.slice A0 l0.length c0] w fun e w' => ∃ v0_ : Value,e = .returned (v0_) ∧ Kd.R k36 36 w' w.heap.size (fun _ => True) v0_ r ∧ Below w.heap.size w w':=by
 have HR0:=zm0_ hr0
 have HC0:=zm0_ hc0
 clear hr0 hc0
 have HB:=zm0_ (Below.refl w.heap.size w)
 have H : (impl_Field_53.l0 k l0 0 l0 (l0.length : Int) 0) = some r:=h
 clear h
 have H':=zm0_ H
 clear H
 go_enter Tryz.func53,Tryz.ntmps53
 go_wp2
 go_loopg [3,11] k (fun kq v3 v11 w' => ∃ (x3_1 : Int) (x11_1 : Int),v3 = .int .i64 x3_1 ∧ v11 = .int .i64 x11_1 ∧ Aside0 (impl_Field_53.l0 kq l0 x3_1 l0 (l0.length : Int) x11_1 = some r) ∧ Aside0 (kq ≤ k) ∧ Aside0 (Below w.heap.size w w'))
 case atStart => exact ⟨(0),(0),zz,zz,H',⟨Nat.le_refl _⟩,⟨zl HB⟩⟩
 case round =>
  clear H'
  obtain ⟨x3_1,x11_1,rfl,rfl,HA,HK1,HB⟩:=hrel
  cases gk with
  | zero => exact absurd HA.out (by simp [impl_Field_53.l0])
  | succ k1 =>
   have H:=HA.out
   clear HA
   simp only [impl_Field_53.l0] at H
   by_cases c2 : x11_1 < (l0.length : Int)
   ·
    rw [if_pos c2] at H
    have c2b0 : decide (x11_1 < (l0.length : Int)) = true:=decide_eq_true c2
    clear c2
    by_cases c3 : 0 ≤ x11_1
    ·
     rw [if_pos c3] at H
     have c3b0 : decide (0 ≤ x11_1) = true:=decide_eq_true c3
     clear c3
     by_cases c4 : x11_1 < (l0.length : Int)
     ·
      rw [if_pos c4] at H
      have c4b0 : decide (x11_1 < (l0.length : Int)) = true:=decide_eq_true c4
      clear c4
      by_cases c5 : (wrap64 (x3_1 + ((rd_L5 l0 x11_1).length : Int))) < 0
      ·
       rw [if_pos c5] at H
       exact absurd H (by simp)
      ·
       rw [if_neg c5] at H
       have c5b0 : decide ((wrap64 (x3_1 + ((rd_L5 l0 x11_1).length : Int))) < 0) = false:=decide_eq_false c5
       clear c5
       have H':=zm0_ H
       clear H
       have p287 : 0 ≤ (x11_1 : Int):=of_decide_eq_true (by first|(with_reducible assumption)|assumption)
       have q287 : x11_1 < (l0.length : Int):=of_decide_eq_true (by first|(with_reducible assumption)|assumption)
       obtain ⟨ad287,A287_0,c287_0,e287,hx287_0,hl287_0,hi287_0⟩:=at_L5 HR0.out x11_1 p287 q287
       cases e287
       replace hx287_0:=(HB.out.cell (zq2_ w _ hx287_0)).trans hx287_0
       have HR287_0:=zm0_ hi287_0
       have HC287_0:=zm0_ hl287_0
       clear hi287_0 hl287_0
       replace p287:=eq_true p287
       replace q287:=eq_true q287
       go_wp2
       go_roundg k1
       case measure => have:=HK1.out;omega
       case rel => exact ⟨(wrap64 (x3_1 + ((rd_L5 l0 x11_1).length : Int))),(wrap64 (x11_1 + 1)),zz,zz,H',⟨by have:=HK1.out;omega⟩,⟨zl HB⟩⟩
     ·
      rw [if_neg c4] at H
      exact absurd H (by simp)
    ·
     rw [if_neg c3] at H
     exact absurd H (by simp)
   ·
    rw [if_neg c2] at H
    have c2b0 : decide (x11_1 < (l0.length : Int)) = false:=decide_eq_false c2
    clear c2
    replace H:=zq1_ H
    obtain ⟨t288,A60,H⟩:=H
    replace H : (impl_Field_53.l1 k1 t288 l0 (l0.length : Int) 0) = some r:=H
    have A6:=zm0_ A60
    clear A60
    have H':=zm0_ H
    clear H
    go_wp2_with (first|((with_reducible refine gate_callee (f:=60) rfl ?_);refine goesL_ (some 24) rfl rfl Tryz.func60 (by kernel_rfl) rfl #[.slice none 0 0,.int .i64 x3_1] rfl zy ?_;(refine (impl_Field_60.calls _ _ ([] : List (S36)) x3_1 t288 _ ?side1 ?side2 ?side3 A6.out).mono ?_);(case side1 => exact Kd.C_nil _ _);(case side2 => exact Nat.le_refl _);(case side3 => exact ⟨rfl,rfl⟩);rintro e w7 ⟨v289,rfl,ho0,hb⟩;refine ⟨_,rfl,?_⟩;have HO290:=zm0_ (zo1_ ho0 (zn9_ (zl HB)));replace HB:=zm0_ (zn8_ (zl HB) hb);(try clear hb);(try clear hb2);(try clear hk);(try clear hi);(try clear ho0)))
    go_loopg [6,27] k1 (fun kq v6 v27 w' => ∃ (x6_2 : List (S36)) (x27_2 : Int),v27 = .int .i64 x27_2 ∧ Aside0 (impl_Field_53.l1 kq x6_2 l0 (l0.length : Int) x27_2 = some r) ∧ Aside0 (kq ≤ k1) ∧ Aside0 (Kd.R k36 36 w' w.heap.size (fun _ => True) v6 x6_2) ∧ Aside0 (Below w.heap.size w w'))
    case atStart => exact ⟨(t288),(0),zz,H',⟨Nat.le_refl _⟩,⟨zr HO290⟩,⟨zl HB⟩⟩
    case round =>
     clear H'
     try clear c2
     try clear c2b0
     try clear p2
     try clear q2
     try clear hx2
     try clear c3
     try clear c3b0
     try clear c4
     try clear c4b0
     try clear c5
     try clear c5b0
     try clear c6
     try clear p6
     try clear hx287_0
     try clear p287
     try clear q287
     obtain ⟨x6_2,x27_2,rfl,HA,HK2,HO_6,HB⟩:=hrel
     cases gk with
     | zero => exact absurd HA.out (by simp [impl_Field_53.l1])
     | succ k2 =>
      have H:=HA.out
      clear HA
      simp only [impl_Field_53.l1] at H
      by_cases c8 : x27_2 < (l0.length : Int)
      ·
       rw [if_pos c8] at H
       have c8b0 : decide (x27_2 < (l0.length : Int)) = true:=decide_eq_true c8
       clear c8
       by_cases c9 : 0 ≤ x27_2
       ·
        rw [if_pos c9] at H
        have c9b0 : decide (0 ≤ x27_2) = true:=decide_eq_true c9
        clear c9
        by_cases c10 : x27_2 < (l0.length : Int)
        ·
         rw [if_pos c10] at H
         have c10b0 : decide (x27_2 < (l0.length : Int)) = true:=decide_eq_true c10
         clear c10
         by_cases c11 : x6_2.length + (rd_L5 l0 x27_2).length < 4398046511104
         ·
          rw [if_pos c11] at H
          have LMc11:=zm0_ c11
          clear c11
          obtain ⟨y292,hy292⟩ : ∃ y_ : List (S36),y_ = (x6_2 ++ (rd_L5 l0 x27_2)):=⟨_,rfl⟩
          replace H : (impl_Field_53.l1 k2 y292 l0 (l0.length : Int) (wrap64 (x27_2 + 1))) = some r:=by first|(rw [hy292];with_reducible exact H)|(have H2_:=(Option.bind_some _ _).symm.trans H;rw [hy292];with_reducible exact H2_)|(have H2_:=(Option.bind_some _ _).symm.trans H;with_reducible exact H2_)|with_reducible exact H|(rw [hy292];exact H)|exact H
          have Ny292:=zm0_ hy292
          clear hy292
          have H':=zm0_ H
          clear H
          have p291 : 0 ≤ (x27_2 : Int):=of_decide_eq_true (by first|(with_reducible assumption)|assumption)
          have q291 : x27_2 < (l0.length : Int):=of_decide_eq_true (by first|(with_reducible assumption)|assumption)
          obtain ⟨ad291,A291_0,c291_0,e291,hx291_0,hl291_0,hi291_0⟩:=at_L5 HR0.out x27_2 p291 q291
          cases e291
          replace hx291_0:=(HB.out.cell (zq2_ w _ hx291_0)).trans hx291_0
          have HR291_0:=zm0_ hi291_0
          have HC291_0:=zm0_ hl291_0
          clear hi291_0 hl291_0
          replace p291:=eq_true p291
          replace q291:=eq_true q291
          go_wp2_with (first|((with_reducible refine gate_builtin (b:=.append) (xs:=#[.tmp 31,.tmp 32]) rfl ?_);at_builtin;refine Kd.R_append_rows k36 (w0:=w) w.heap.size rfl (.tmp 31) (.tmp 32) 30 36 (.agg #[(.string ⟨#[]⟩),(.string ⟨#[]⟩)]) 32 rfl Tryz.underlying30 info36 rfl (by decide) (by omega) u6 x6_2 (rd_L5 l0 x27_2) _ _ _ (fun _ => True) (fun _ => False) rfl rfl ?aO ?aR (fun _ _ h => h) (fun _ h => h.elim) ?aF ?aB ?aS ?aL ?_;(case aR => repeat (first|exact (Kd.C_below HR291_0.out HB.out)|(with_reducible refine Kd.C_alloc ?_ _)|(with_reducible refine Kd.C_drewN ?_ _)|(with_reducible refine Kd.C_drew ?_)));(case aB => exact (zl HB));(case aF => exact (fun _ _ => trivial));(case aO => exact (zr HO_6));(case aS => exact (zn9_ (zl HB)));(case aL => have:=LMc11.out;omega);intro v293 w12 ho hb hg hat;(first|(with_reducible rw [← Ny292.out] at ho)|(simp only [Int.reduceToNat] at ho;with_reducible rw [← Ny292.out] at ho)|rw [← Ny292.out] at ho);replace HB:=zm0_ (hb);have HO294:=zm0_ (ho);clear HO_6;clear ho hb hg hat))
          go_roundg k2
          case measure => have:=HK1.out;have:=HK2.out;omega
          case rel => exact ⟨(y292),(wrap64 (x27_2 + 1)),zz,H',⟨by have:=HK1.out;have:=HK2.out;omega⟩,⟨zr HO294⟩,⟨zl HB⟩⟩
         ·
          rw [if_neg c11] at H
          exact absurd H (by simp)
        ·
         rw [if_neg c10] at H
         exact absurd H (by simp)
       ·
        rw [if_neg c9] at H
        exact absurd H (by simp)
      ·
       rw [if_neg c8] at H
       have c8b0 : decide (x27_2 < (l0.length : Int)) = false:=decide_eq_false c8
       clear c8
       obtain rfl:=Option.some.inj H
       go_wp2
       go_ret
       exact ⟨_,ze,by (with_reducible repeat (first|apply k1_|apply k2_|apply k3_));exact HO_6.out,by repeat (first|(with_reducible first|exact HB.out|apply zm3_|apply zm2_|apply zm4_)|exact HB.out)⟩
end Go.Proofs.YthflimnpiglgbaaGreatDoor.A
end
