/- Written by a program of this session, out of the translation: functions as plain Lean functions, and that the machine's calls answer as they do. Condition: none beyond each theorem's own. -/
import Derived.Test.YtlgfcpmihocheaaAx0
import Derived.Test.YtlgfcpmihocheaaAx1
import Derived.Test.YtlgfcpmihocheaaAx3
import Derived.Test.YtlgfcpmihocheaaAx5
import Derived.Test.YtlgfcpmihocheaaAx7
import Derived.Test.YtlgfcpmihocheaaAx10
import Derived.Test.YtlgfcpmihocheaaAx12
import Derived.Test.YtlgfcpmihocheaaAx18
import Derived.Test.YtlgfcpmihocheaaAx25
namespace Go.Proofs.Ytlgfcpmihocheaa.A
open Go.RowKit Go.Proofs.YtlgfcpmihocheaaW.PrintWords Go.Proofs.YtlgfcpmihocheaaW.PrintLast Go.Proofs.YtlgfcpmihocheaaW.PrintMore
abbrev zm0_ := @Aside0.mk
abbrev zm1_ := @below_set
abbrev zm2_ := @pw_below_drewN
abbrev zm3_ := @below_alloc
abbrev zm4_ := @below_drew1
abbrev zm5_ := @blk_below
abbrev zm6_ := @blk_cell
abbrev zm7_ := @blk_frozen
abbrev zm8_ := @Kd.R_below
abbrev zm9_ := @Kd.V_below
abbrev zn5_ := @Kd.V_alloc
abbrev zn6_ := @Kd.V_drewN
abbrev zn7_ := @Kd.V_drew
abbrev zn8_ := @below_step
abbrev zn9_ := @below_size
abbrev zo1_ := @Kd.R_lower
abbrev zo2_ := @Kd.R_mono
abbrev zo3_ := @blk_lt
theorem zp1_ {α β : Type _} (f : α → β) (l : List α) : l.toArray.map f = (l.map f).toArray := by simp
theorem zp2_ {α β : Type _} (f : α → β) (a : α) (l : List α) : (a :: l).map f = f a :: l.map f := rfl
theorem zp3_ {α β : Type _} (f : α → β) : ([] : List α).map f = [] := rfl
theorem zp4_ {α : Type _} (i : Nat) (l : List α) : (l.drop i).length = l.length - i := List.length_drop
theorem zp5_ {α : Type _} (i : Nat) (l : List α) : (l.take i).length = min i l.length := List.length_take
abbrev Y : Bool := true
abbrev Z : Bool := false
theorem lA_ {α : Type _} (l : List α) (i : Nat) (a : α) : l.toArray.setIfInBounds i a = (l.set i a).toArray := by simp
theorem lB_ {α : Type _} (x : α) (l : List α) (a : α) : (x :: l).set 0 a = a :: l := rfl
theorem lC_ {α : Type _} (x : α) (l : List α) (n : Nat) (a : α) : (x :: l).set (n + 1) a = x :: l.set n a := rfl
abbrev k1_ := @Kd.R_alloc
abbrev k2_ := @Kd.R_drewN
abbrev k3_ := @Kd.R_drew
abbrev k4_ := @Kd.R_far
abbrev k5_ := @blk_alloc
abbrev k6_ := @blk_drewN
abbrev k7_ := @blk_drew
theorem k8_ : (¬ False) = True := not_false_eq_true
attribute [local go_sem] max2_int min2_int max_two min_two max_three min_three max_four min_four   -- for this text's walks alone
set_option linter.unusedVariables false
set_option linter.unusedSimpArgs false

/-! ### laws_FnExactAddField: function 9 -/
def laws_FnExactAddField.j0 : Nat → Bool → Int → List (S69) → ByteArray → ByteArray → Int → List (S33) → Int → List (S33) → Option (Bool)
 | 0,_,_,_,_,_,_,_,_,_ => none
 | k + 1,x53,x236000,x236001,x237000,x237001,x250000,x250001,x262000,x262001 => if x53 = true then (none) else ((laws_markTable.f k x262000 x262001 1).bind fun bt271 => ((laws_heldTable.f k x262000 bt271.2 1).bind fun t273 => (if t273 < 0 then (none) else (if t273 = bt271.1 then ((laws_toTable.f k x236000 x236001).bind fun bt274 => ((laws_toField.f x237000 x237001).bind fun bt278 => ((impl_AddField.f k bt274.1 bt274.2 bt278.1 bt278.2).bind fun bt280 => ((laws_eqTable.f k bt280.1 bt280.2 x250000 x250001).bind fun t285 => (if t285 = true then ((laws_heldTable.f k x262000 bt271.2 1).bind fun t286 => (if t286 < 0 then (none) else (if t286 = bt271.1 then (some true) else (none)))) else (none)))))) else (none)))))
def laws_FnExactAddField.f (k : Nat) (a0_0 : Int) (l0_1 : List (S69)) (a1_0 : ByteArray) (a1_1 : ByteArray) : Option (Bool):=(laws_szTable.f k a0_0 l0_1 1048576).bind fun t237 => (if t237 < 0 then (some true) else ((laws_szField.f a1_0 a1_1 t237).bind fun t238 => (if t238 < 0 then (some true) else ((laws_toTable.f k a0_0 l0_1).bind fun bt239 => ((laws_toField.f a1_0 a1_1).bind fun bt243 => ((spec_AddField.f k bt239.1 bt239.2 bt243.1 bt243.2).bind fun bt245 => ((laws_toTable.f k a0_0 l0_1).bind fun bt250 => ((laws_toField.f a1_0 a1_1).bind fun bt255 => ((impl_AddField.f k bt250.1 bt250.2 bt255.1 bt255.2).bind fun bt257 => ((laws_eqTable.f k bt257.1 bt257.2 bt245.1 bt245.2).bind fun t262 => (if t262 = true then ((laws_toTable.f k a0_0 l0_1).bind fun bt263 => ((laws_eqTable.f k bt250.1 bt250.2 bt263.1 bt263.2).bind fun t267 => (if t267 = true then ((laws_markTable.f k bt250.1 bt250.2 1).bind fun bt268 => (if bt268.1 < 0 then (laws_FnExactAddField.j0 k true a0_0 l0_1 a1_0 a1_1 bt245.1 bt245.2 bt257.1 bt257.2) else ((laws_eqTable.f k bt257.1 bt257.2 bt245.1 bt245.2).bind fun t270 => (laws_FnExactAddField.j0 k (!t270) a0_0 l0_1 a1_0 a1_1 bt245.1 bt245.2 bt257.1 bt257.2)))) else (none)))) else (none))))))))))))
theorem laws_FnExactAddField.mono_l : ∀ k,(∀ y0 y1 y2 y3 y4 y5 y6 y7 y8,LeO (laws_FnExactAddField.j0 k y0 y1 y2 y3 y4 y5 y6 y7 y8) (laws_FnExactAddField.j0 (k + 1) y0 y1 y2 y3 y4 y5 y6 y7 y8))
 | 0 => fun _ _ _ _ _ _ _ _ _ r h => by simp [laws_FnExactAddField.j0] at h
 | k + 1 => by
  have ih0:=laws_FnExactAddField.mono_l k
  ·
   intro y0 y1 y2 y3 y4 y5 y6 y7 y8
   unfold laws_FnExactAddField.j0
   repeat' first
   | (with_reducible exact ih0 _ _ _ _ _ _ _ _ _)
   | (with_reducible exact impl_AddField.mono _ _ _ _ _)
   | (with_reducible exact laws_eqTable.mono _ _ _ _ _)
   | (with_reducible exact laws_heldTable.mono _ _ _ _)
   | (with_reducible exact laws_markTable.mono _ _ _ _)
   | (with_reducible exact laws_szTable.mono _ _ _ _)
   | (with_reducible exact laws_toTable.mono _ _ _)
   | (with_reducible exact spec_AddField.mono _ _ _ _ _)
   | (with_reducible exact LeO.refl _)
   | (with_reducible exact LeO.none _)
   | (with_reducible refine LeO.ite ?_ ?_)
   | (with_reducible refine LeO.bind ?_ (fun _ => ?_))
   | exact ih0 _ _ _ _ _ _ _ _ _
   | exact impl_AddField.mono _ _ _ _ _
   | exact laws_eqTable.mono _ _ _ _ _
   | exact laws_heldTable.mono _ _ _ _
   | exact laws_markTable.mono _ _ _ _
   | exact laws_szTable.mono _ _ _ _
   | exact laws_toTable.mono _ _ _
   | exact spec_AddField.mono _ _ _ _ _
   | exact LeO.none _
   | refine LeO.ite ?_ ?_
   | refine LeO.bind ?_ (fun _ => ?_)
theorem laws_FnExactAddField.mono : ∀ a0 a1 a2 a3 k,LeO (laws_FnExactAddField.f k a0 a1 a2 a3) (laws_FnExactAddField.f (k + 1) a0 a1 a2 a3):=by
 intro a0 a1 a2 a3 k
 have ih0:=laws_FnExactAddField.mono_l k
 unfold laws_FnExactAddField.f
 repeat' first
  | (with_reducible exact ih0 _ _ _ _ _ _ _ _ _)
  | (with_reducible exact impl_AddField.mono _ _ _ _ _)
  | (with_reducible exact laws_eqTable.mono _ _ _ _ _)
  | (with_reducible exact laws_heldTable.mono _ _ _ _)
  | (with_reducible exact laws_markTable.mono _ _ _ _)
  | (with_reducible exact laws_szTable.mono _ _ _ _)
  | (with_reducible exact laws_toTable.mono _ _ _)
  | (with_reducible exact spec_AddField.mono _ _ _ _ _)
  | (with_reducible exact LeO.refl _)
  | (with_reducible exact LeO.none _)
  | (with_reducible refine LeO.ite ?_ ?_)
  | (with_reducible refine LeO.bind ?_ (fun _ => ?_))
  | exact ih0 _ _ _ _ _ _ _ _ _
  | exact impl_AddField.mono _ _ _ _ _
  | exact laws_eqTable.mono _ _ _ _ _
  | exact laws_heldTable.mono _ _ _ _
  | exact laws_markTable.mono _ _ _ _
  | exact laws_szTable.mono _ _ _ _
  | exact laws_toTable.mono _ _ _
  | exact spec_AddField.mono _ _ _ _ _
  | exact LeO.none _
  | refine LeO.ite ?_ ?_
  | refine LeO.bind ?_ (fun _ => ?_)
set_option maxHeartbeats 8000000 in
set_option maxRecDepth 100000 in
theorem laws_FnExactAddField.calls (k : Nat) (a0_0 : Int) (A0_1 : Option Addr) (c0_1 : Nat) (l0_1 : List (S69)) (a1_0 : ByteArray) (a1_1 : ByteArray) (r : Bool) (w : World) (hr0_1 : Kd.C k69 w A0_1 l0_1.length l0_1) (hc0_1 : l0_1.length ≤ c0_1) (h : laws_FnExactAddField.f k a0_0 l0_1 a1_0 a1_1 = some r) :
 Calls Try.prog 9 #[.agg #[.int .i64 a0_0,.slice A0_1 l0_1.length c0_1],.agg #[.string a1_0,.string a1_1]] w fun e w' => e = .returned (.bool r) ∧ Below w.heap.size w w':=by
 have hu47:=Try.underlying47
 have hu69:=Try.underlying69
 have hu26:=Try.underlying26
 have HR0_1:=zm0_ hr0_1
 have HC0_1:=zm0_ hc0_1
 clear hr0_1 hc0_1
 have HB:=zm0_ (Below.refl w.heap.size w)
 have H : ((laws_szTable.f k a0_0 l0_1 1048576).bind fun t237 => (if t237 < 0 then (some true) else ((laws_szField.f a1_0 a1_1 t237).bind fun t238 => (if t238 < 0 then (some true) else ((laws_toTable.f k a0_0 l0_1).bind fun bt239 => ((laws_toField.f a1_0 a1_1).bind fun bt243 => ((spec_AddField.f k bt239.1 bt239.2 bt243.1 bt243.2).bind fun bt245 => ((laws_toTable.f k a0_0 l0_1).bind fun bt250 => ((laws_toField.f a1_0 a1_1).bind fun bt255 => ((impl_AddField.f k bt250.1 bt250.2 bt255.1 bt255.2).bind fun bt257 => ((laws_eqTable.f k bt257.1 bt257.2 bt245.1 bt245.2).bind fun t262 => (if t262 = true then ((laws_toTable.f k a0_0 l0_1).bind fun bt263 => ((laws_eqTable.f k bt250.1 bt250.2 bt263.1 bt263.2).bind fun t267 => (if t267 = true then ((laws_markTable.f k bt250.1 bt250.2 1).bind fun bt268 => (if bt268.1 < 0 then (laws_FnExactAddField.j0 k true a0_0 l0_1 a1_0 a1_1 bt245.1 bt245.2 bt257.1 bt257.2) else ((laws_eqTable.f k bt257.1 bt257.2 bt245.1 bt245.2).bind fun t270 => (laws_FnExactAddField.j0 k (!t270) a0_0 l0_1 a1_0 a1_1 bt245.1 bt245.2 bt257.1 bt257.2)))) else (none)))) else (none))))))))))))) = some r:=h
 clear h
 replace H:=Option.bind_eq_some_iff.mp H
 obtain ⟨t237,A30,H⟩:=H
 replace H : (if t237 < 0 then (some true) else ((laws_szField.f a1_0 a1_1 t237).bind fun t238 => (if t238 < 0 then (some true) else ((laws_toTable.f k a0_0 l0_1).bind fun bt239 => ((laws_toField.f a1_0 a1_1).bind fun bt243 => ((spec_AddField.f k bt239.1 bt239.2 bt243.1 bt243.2).bind fun bt245 => ((laws_toTable.f k a0_0 l0_1).bind fun bt250 => ((laws_toField.f a1_0 a1_1).bind fun bt255 => ((impl_AddField.f k bt250.1 bt250.2 bt255.1 bt255.2).bind fun bt257 => ((laws_eqTable.f k bt257.1 bt257.2 bt245.1 bt245.2).bind fun t262 => (if t262 = true then ((laws_toTable.f k a0_0 l0_1).bind fun bt263 => ((laws_eqTable.f k bt250.1 bt250.2 bt263.1 bt263.2).bind fun t267 => (if t267 = true then ((laws_markTable.f k bt250.1 bt250.2 1).bind fun bt268 => (if bt268.1 < 0 then (laws_FnExactAddField.j0 k true a0_0 l0_1 a1_0 a1_1 bt245.1 bt245.2 bt257.1 bt257.2) else ((laws_eqTable.f k bt257.1 bt257.2 bt245.1 bt245.2).bind fun t270 => (laws_FnExactAddField.j0 k (!t270) a0_0 l0_1 a1_0 a1_1 bt245.1 bt245.2 bt257.1 bt257.2)))) else (none)))) else (none)))))))))))) = some r:=H
 have A3:=zm0_ A30
 clear A30
 by_cases c4 : t237 < 0
 ·
  rw [if_pos c4] at H
  have c4b0 : decide (t237 < 0) = true:=decide_eq_true c4
  clear c4
  obtain rfl:=Option.some.inj H
  go_enter Try.func9,Try.ntmps9
  go_wp2_with (first|((with_reducible refine gate_dst (N:=2) rfl ?_);refine box_event ?hg (N:=2) ?hd (cs:=#[.int .i64 a0_0,.slice A0_1 l0_1.length c0_1]) (t:=47) ?hr ?_;(case hd => rfl);(case hg => rfl);(case hr => first|(go_simp;done)|(go_simp;rfl));intro gb235 hg w5 hbox hb;have n0_:=zm0_ (zn8_ (by repeat (first|(with_reducible first|exact HB.out|apply zm3_|apply zm2_|apply zm4_)|exact HB.out)) hb);have n1_:=zm0_ (hbox);have n2_:=zm0_ ((by rw [hg];exact (zn9_ (by repeat (first|(with_reducible first|exact HB.out|apply zm3_|apply zm2_|apply zm4_)|exact HB.out))) : w.heap.size ≤ gb235));have n3_:=zm0_ ((by rw [hg];exact (zn9_ (by repeat (first|(with_reducible first|exact HB.out|apply zm3_|apply zm2_|apply zm4_)|exact HB.out))) : w.heap.size ≤ gb235));clear HB;have HB:=n0_;have BK235:=n1_;have GW235:=n2_;have GE235:=n3_;clear n0_ n1_ n2_ n3_;clear hb hbox hg)|((with_reducible refine gate_dst (N:=3) rfl ?_);refine box_event ?hg (N:=3) ?hd (cs:=#[.string a1_0,.string a1_1]) (t:=69) ?hr ?_;(case hd => rfl);(case hg => rfl);(case hr => first|(go_simp;done)|(go_simp;rfl));intro gb236 hg w6 hbox hb;have n0_:=zm0_ (zm5_ (by (with_reducible repeat (first|refine k6_ ?_ _|refine k7_ ?_|refine k5_ ?_ _));exact BK235.out) hb);have n1_:=zm0_ (zn8_ (by repeat (first|(with_reducible first|exact HB.out|apply zm3_|apply zm2_|apply zm4_|refine zm1_ ?_ GE235.out)|exact HB.out)) hb);have n2_:=zm0_ (hbox);have n3_:=zm0_ ((by rw [hg];exact (zn9_ (by repeat (first|(with_reducible first|exact HB.out|apply zm3_|apply zm2_|apply zm4_|refine zm1_ ?_ GE235.out)|exact HB.out))) : w.heap.size ≤ gb236));have n4_:=zm0_ ((by rw [hg];exact (zn9_ (by repeat (first|(with_reducible first|exact HB.out|apply zm3_|apply zm2_|apply zm4_|refine zm1_ ?_ GE235.out)|exact HB.out))) : w.heap.size ≤ gb236));have n5_:=zm0_ ((by rw [hg];exact Nat.ne_of_lt (zo3_ (g:=gb235) (o:=.cells #[.int .i64 a0_0,.slice A0_1 l0_1.length c0_1] 47 (0,0)) (by (with_reducible repeat (first|refine k6_ ?_ _|refine k7_ ?_|refine k5_ ?_ _));exact BK235.out)) : gb235 ≠ gb236));have n6_:=zm0_ ((by rw [hg];exact Nat.ne_of_gt (zo3_ (g:=gb235) (o:=.cells #[.int .i64 a0_0,.slice A0_1 l0_1.length c0_1] 47 (0,0)) (by (with_reducible repeat (first|refine k6_ ?_ _|refine k7_ ?_|refine k5_ ?_ _));exact BK235.out)) : gb236 ≠ gb235));clear BK235;clear HB;have BK235:=n0_;have HB:=n1_;have BK236:=n2_;have GW236:=n3_;have GE236:=n4_;have NB235_236:=n5_;have NB236_235:=n6_;clear n0_ n1_ n2_ n3_ n4_ n5_ n6_;clear hb hbox hg;have hnb7:=NB235_236.out;have hnc7:=NB236_235.out;have hcz8_0 : w6.cell? ⟨gb235,0,none⟩ = some (.int .i64 a0_0):=(zm6_ BK235.out 0).trans rfl;have hcz8_1 : w6.cell? ⟨gb235,1,none⟩ = some (.slice A0_1 l0_1.length c0_1):=(zm6_ BK235.out 1).trans rfl;have hfz8_0:=zm7_ BK235.out 0;have hfz8_1:=zm7_ BK235.out 1)|((with_reducible refine gate_callee (f:=27) rfl ?_);refine goesL_ (some 15) rfl rfl Try.func27 (by kernel_rfl) rfl #[.agg #[.int .i64 a0_0,.slice A0_1 l0_1.length c0_1],.int .i64 1048576] rfl (by (try simp only [zp1_,zp2_,zp3_]);first|done|rfl|(simp only [zp4_,zp5_];rfl)) ?_;(with_reducible refine (laws_szTable.calls k a0_0 _ _ l0_1 1048576 t237 _ ?side1 ?side2 A3.out).mono ?_);(case side1 => repeat (first|exact (Kd.C_below HR0_1.out HB.out)|(with_reducible refine Kd.C_alloc ?_ _)|(with_reducible refine Kd.C_drewN ?_ _)|(with_reducible refine Kd.C_drew ?_)));(case side2 => exact HC0_1.out);rintro e w9 ⟨rfl,hb⟩;refine ⟨_,rfl,?_⟩;have n0_:=zm0_ (zm5_ (by (with_reducible repeat (first|refine k6_ ?_ _|refine k7_ ?_|refine k5_ ?_ _));exact BK235.out) hb);have n1_:=zm0_ (zm5_ (by (with_reducible repeat (first|refine k6_ ?_ _|refine k7_ ?_|refine k5_ ?_ _));exact BK236.out) hb);have n2_:=zm0_ (zn8_ (by repeat (first|(with_reducible first|exact HB.out|apply zm3_|apply zm2_|apply zm4_|refine zm1_ ?_ GE235.out|refine zm1_ ?_ GE236.out)|exact HB.out)) hb);clear BK235;clear BK236;clear HB;have BK235:=n0_;have BK236:=n1_;have HB:=n2_;clear n0_ n1_ n2_;(try clear hb);(try clear hb2);(try clear hk);(try clear hi)))
  go_ret
  exact ⟨by first|rfl|(simp [errW_none,errW_some] <;> rfl)|(simp [*,errW_none,errW_some] <;> rfl),by repeat (first|(with_reducible first|exact HB.out|apply zm3_|apply zm2_|apply zm4_|refine zm1_ ?_ GE235.out|refine zm1_ ?_ GE236.out)|exact HB.out)⟩
 ·
  rw [if_neg c4] at H
  have c4b0 : decide (t237 < 0) = false:=decide_eq_false c4
  clear c4
  replace H:=Option.bind_eq_some_iff.mp H
  obtain ⟨t238,A100,H⟩:=H
  replace H : (if t238 < 0 then (some true) else ((laws_toTable.f k a0_0 l0_1).bind fun bt239 => ((laws_toField.f a1_0 a1_1).bind fun bt243 => ((spec_AddField.f k bt239.1 bt239.2 bt243.1 bt243.2).bind fun bt245 => ((laws_toTable.f k a0_0 l0_1).bind fun bt250 => ((laws_toField.f a1_0 a1_1).bind fun bt255 => ((impl_AddField.f k bt250.1 bt250.2 bt255.1 bt255.2).bind fun bt257 => ((laws_eqTable.f k bt257.1 bt257.2 bt245.1 bt245.2).bind fun t262 => (if t262 = true then ((laws_toTable.f k a0_0 l0_1).bind fun bt263 => ((laws_eqTable.f k bt250.1 bt250.2 bt263.1 bt263.2).bind fun t267 => (if t267 = true then ((laws_markTable.f k bt250.1 bt250.2 1).bind fun bt268 => (if bt268.1 < 0 then (laws_FnExactAddField.j0 k true a0_0 l0_1 a1_0 a1_1 bt245.1 bt245.2 bt257.1 bt257.2) else ((laws_eqTable.f k bt257.1 bt257.2 bt245.1 bt245.2).bind fun t270 => (laws_FnExactAddField.j0 k (!t270) a0_0 l0_1 a1_0 a1_1 bt245.1 bt245.2 bt257.1 bt257.2)))) else (none)))) else (none)))))))))) = some r:=H
  have A10:=zm0_ A100
  clear A100
  by_cases c11 : t238 < 0
  ·
   rw [if_pos c11] at H
   have c11b0 : decide (t238 < 0) = true:=decide_eq_true c11
   clear c11
   obtain rfl:=Option.some.inj H
   go_enter Try.func9,Try.ntmps9
   go_wp2_with (first|((with_reducible refine gate_dst (N:=2) rfl ?_);refine box_event ?hg (N:=2) ?hd (cs:=#[.int .i64 a0_0,.slice A0_1 l0_1.length c0_1]) (t:=47) ?hr ?_;(case hd => rfl);(case hg => rfl);(case hr => first|(go_simp;done)|(go_simp;rfl));intro gb235 hg w12 hbox hb;have n0_:=zm0_ (zn8_ (by repeat (first|(with_reducible first|exact HB.out|apply zm3_|apply zm2_|apply zm4_)|exact HB.out)) hb);have n1_:=zm0_ (hbox);have n2_:=zm0_ ((by rw [hg];exact (zn9_ (by repeat (first|(with_reducible first|exact HB.out|apply zm3_|apply zm2_|apply zm4_)|exact HB.out))) : w.heap.size ≤ gb235));have n3_:=zm0_ ((by rw [hg];exact (zn9_ (by repeat (first|(with_reducible first|exact HB.out|apply zm3_|apply zm2_|apply zm4_)|exact HB.out))) : w.heap.size ≤ gb235));clear HB;have HB:=n0_;have BK235:=n1_;have GW235:=n2_;have GE235:=n3_;clear n0_ n1_ n2_ n3_;clear hb hbox hg)|((with_reducible refine gate_dst (N:=3) rfl ?_);refine box_event ?hg (N:=3) ?hd (cs:=#[.string a1_0,.string a1_1]) (t:=69) ?hr ?_;(case hd => rfl);(case hg => rfl);(case hr => first|(go_simp;done)|(go_simp;rfl));intro gb236 hg w13 hbox hb;have n0_:=zm0_ (zm5_ (by (with_reducible repeat (first|refine k6_ ?_ _|refine k7_ ?_|refine k5_ ?_ _));exact BK235.out) hb);have n1_:=zm0_ (zn8_ (by repeat (first|(with_reducible first|exact HB.out|apply zm3_|apply zm2_|apply zm4_|refine zm1_ ?_ GE235.out)|exact HB.out)) hb);have n2_:=zm0_ (hbox);have n3_:=zm0_ ((by rw [hg];exact (zn9_ (by repeat (first|(with_reducible first|exact HB.out|apply zm3_|apply zm2_|apply zm4_|refine zm1_ ?_ GE235.out)|exact HB.out))) : w.heap.size ≤ gb236));have n4_:=zm0_ ((by rw [hg];exact (zn9_ (by repeat (first|(with_reducible first|exact HB.out|apply zm3_|apply zm2_|apply zm4_|refine zm1_ ?_ GE235.out)|exact HB.out))) : w.heap.size ≤ gb236));have n5_:=zm0_ ((by rw [hg];exact Nat.ne_of_lt (zo3_ (g:=gb235) (o:=.cells #[.int .i64 a0_0,.slice A0_1 l0_1.length c0_1] 47 (0,0)) (by (with_reducible repeat (first|refine k6_ ?_ _|refine k7_ ?_|refine k5_ ?_ _));exact BK235.out)) : gb235 ≠ gb236));have n6_:=zm0_ ((by rw [hg];exact Nat.ne_of_gt (zo3_ (g:=gb235) (o:=.cells #[.int .i64 a0_0,.slice A0_1 l0_1.length c0_1] 47 (0,0)) (by (with_reducible repeat (first|refine k6_ ?_ _|refine k7_ ?_|refine k5_ ?_ _));exact BK235.out)) : gb236 ≠ gb235));clear BK235;clear HB;have BK235:=n0_;have HB:=n1_;have BK236:=n2_;have GW236:=n3_;have GE236:=n4_;have NB235_236:=n5_;have NB236_235:=n6_;clear n0_ n1_ n2_ n3_ n4_ n5_ n6_;clear hb hbox hg;have hnb14:=NB235_236.out;have hnc14:=NB236_235.out;have hcz15_0 : w13.cell? ⟨gb235,0,none⟩ = some (.int .i64 a0_0):=(zm6_ BK235.out 0).trans rfl;have hcz15_1 : w13.cell? ⟨gb235,1,none⟩ = some (.slice A0_1 l0_1.length c0_1):=(zm6_ BK235.out 1).trans rfl;have hfz15_0:=zm7_ BK235.out 0;have hfz15_1:=zm7_ BK235.out 1)|((with_reducible refine gate_callee (f:=27) rfl ?_);refine goesL_ (some 15) rfl rfl Try.func27 (by kernel_rfl) rfl #[.agg #[.int .i64 a0_0,.slice A0_1 l0_1.length c0_1],.int .i64 1048576] rfl (by (try simp only [zp1_,zp2_,zp3_]);first|done|rfl|(simp only [zp4_,zp5_];rfl)) ?_;(with_reducible refine (laws_szTable.calls k a0_0 _ _ l0_1 1048576 t237 _ ?side1 ?side2 A3.out).mono ?_);(case side1 => repeat (first|exact (Kd.C_below HR0_1.out HB.out)|(with_reducible refine Kd.C_alloc ?_ _)|(with_reducible refine Kd.C_drewN ?_ _)|(with_reducible refine Kd.C_drew ?_)));(case side2 => exact HC0_1.out);rintro e w16 ⟨rfl,hb⟩;refine ⟨_,rfl,?_⟩;have n0_:=zm0_ (zm5_ (by (with_reducible repeat (first|refine k6_ ?_ _|refine k7_ ?_|refine k5_ ?_ _));exact BK235.out) hb);have n1_:=zm0_ (zm5_ (by (with_reducible repeat (first|refine k6_ ?_ _|refine k7_ ?_|refine k5_ ?_ _));exact BK236.out) hb);have n2_:=zm0_ (zn8_ (by repeat (first|(with_reducible first|exact HB.out|apply zm3_|apply zm2_|apply zm4_|refine zm1_ ?_ GE235.out|refine zm1_ ?_ GE236.out)|exact HB.out)) hb);clear BK235;clear BK236;clear HB;have BK235:=n0_;have BK236:=n1_;have HB:=n2_;clear n0_ n1_ n2_;(try clear hb);(try clear hb2);(try clear hk);(try clear hi);have hcz17_0 : w16.cell? ⟨gb236,0,none⟩ = some (.string a1_0):=(zm6_ BK236.out 0).trans rfl;have hcz17_1 : w16.cell? ⟨gb236,1,none⟩ = some (.string a1_1):=(zm6_ BK236.out 1).trans rfl;have hfz17_0:=zm7_ BK236.out 0;have hfz17_1:=zm7_ BK236.out 1)|((with_reducible refine gate_callee (f:=45) rfl ?_);refine goesL_ (some 20) rfl rfl Try.func45 (by kernel_rfl) rfl #[.agg #[.string a1_0,.string a1_1],.int .i64 t237] rfl (by (try simp only [zp1_,zp2_,zp3_]);first|done|rfl|(simp only [zp4_,zp5_];rfl)) ?_;(with_reducible refine (laws_szField.calls a1_0 a1_1 t237 t238 _ A10.out).mono ?_);rintro e w18 ⟨rfl,hb⟩;refine ⟨_,rfl,?_⟩;have n0_:=zm0_ (zm5_ (by (with_reducible repeat (first|refine k6_ ?_ _|refine k7_ ?_|refine k5_ ?_ _));exact BK235.out) hb);have n1_:=zm0_ (zm5_ (by (with_reducible repeat (first|refine k6_ ?_ _|refine k7_ ?_|refine k5_ ?_ _));exact BK236.out) hb);have n2_:=zm0_ (zn8_ (by repeat (first|(with_reducible first|exact HB.out|apply zm3_|apply zm2_|apply zm4_|refine zm1_ ?_ GE235.out|refine zm1_ ?_ GE236.out)|exact HB.out)) hb);clear BK235;clear BK236;clear HB;have BK235:=n0_;have BK236:=n1_;have HB:=n2_;clear n0_ n1_ n2_;(try clear hb);(try clear hb2);(try clear hk);(try clear hi)))
   go_ret
   exact ⟨by first|rfl|(simp [errW_none,errW_some] <;> rfl)|(simp [*,errW_none,errW_some] <;> rfl),by repeat (first|(with_reducible first|exact HB.out|apply zm3_|apply zm2_|apply zm4_|refine zm1_ ?_ GE235.out|refine zm1_ ?_ GE236.out)|exact HB.out)⟩
  ·
   rw [if_neg c11] at H
   have c11b0 : decide (t238 < 0) = false:=decide_eq_false c11
   clear c11
   replace H:=Option.bind_eq_some_iff.mp H
   obtain ⟨⟨t239,t240⟩,A190,H⟩:=H
   replace H : ((laws_toField.f a1_0 a1_1).bind fun bt243 => ((spec_AddField.f k t239 t240 bt243.1 bt243.2).bind fun bt245 => ((laws_toTable.f k a0_0 l0_1).bind fun bt250 => ((laws_toField.f a1_0 a1_1).bind fun bt255 => ((impl_AddField.f k bt250.1 bt250.2 bt255.1 bt255.2).bind fun bt257 => ((laws_eqTable.f k bt257.1 bt257.2 bt245.1 bt245.2).bind fun t262 => (if t262 = true then ((laws_toTable.f k a0_0 l0_1).bind fun bt263 => ((laws_eqTable.f k bt250.1 bt250.2 bt263.1 bt263.2).bind fun t267 => (if t267 = true then ((laws_markTable.f k bt250.1 bt250.2 1).bind fun bt268 => (if bt268.1 < 0 then (laws_FnExactAddField.j0 k true a0_0 l0_1 a1_0 a1_1 bt245.1 bt245.2 bt257.1 bt257.2) else ((laws_eqTable.f k bt257.1 bt257.2 bt245.1 bt245.2).bind fun t270 => (laws_FnExactAddField.j0 k (!t270) a0_0 l0_1 a1_0 a1_1 bt245.1 bt245.2 bt257.1 bt257.2)))) else (none)))) else (none)))))))) = some r:=H
   have A19:=zm0_ A190
   clear A190
   replace H:=Option.bind_eq_some_iff.mp H
   obtain ⟨⟨t243,t244⟩,A200,H⟩:=H
   replace H : ((spec_AddField.f k t239 t240 t243 t244).bind fun bt245 => ((laws_toTable.f k a0_0 l0_1).bind fun bt250 => ((laws_toField.f a1_0 a1_1).bind fun bt255 => ((impl_AddField.f k bt250.1 bt250.2 bt255.1 bt255.2).bind fun bt257 => ((laws_eqTable.f k bt257.1 bt257.2 bt245.1 bt245.2).bind fun t262 => (if t262 = true then ((laws_toTable.f k a0_0 l0_1).bind fun bt263 => ((laws_eqTable.f k bt250.1 bt250.2 bt263.1 bt263.2).bind fun t267 => (if t267 = true then ((laws_markTable.f k bt250.1 bt250.2 1).bind fun bt268 => (if bt268.1 < 0 then (laws_FnExactAddField.j0 k true a0_0 l0_1 a1_0 a1_1 bt245.1 bt245.2 bt257.1 bt257.2) else ((laws_eqTable.f k bt257.1 bt257.2 bt245.1 bt245.2).bind fun t270 => (laws_FnExactAddField.j0 k (!t270) a0_0 l0_1 a1_0 a1_1 bt245.1 bt245.2 bt257.1 bt257.2)))) else (none)))) else (none))))))) = some r:=H
   have A20:=zm0_ A200
   clear A200
   replace H:=Option.bind_eq_some_iff.mp H
   obtain ⟨⟨t245,t246⟩,A210,H⟩:=H
   replace H : ((laws_toTable.f k a0_0 l0_1).bind fun bt250 => ((laws_toField.f a1_0 a1_1).bind fun bt255 => ((impl_AddField.f k bt250.1 bt250.2 bt255.1 bt255.2).bind fun bt257 => ((laws_eqTable.f k bt257.1 bt257.2 t245 t246).bind fun t262 => (if t262 = true then ((laws_toTable.f k a0_0 l0_1).bind fun bt263 => ((laws_eqTable.f k bt250.1 bt250.2 bt263.1 bt263.2).bind fun t267 => (if t267 = true then ((laws_markTable.f k bt250.1 bt250.2 1).bind fun bt268 => (if bt268.1 < 0 then (laws_FnExactAddField.j0 k true a0_0 l0_1 a1_0 a1_1 t245 t246 bt257.1 bt257.2) else ((laws_eqTable.f k bt257.1 bt257.2 t245 t246).bind fun t270 => (laws_FnExactAddField.j0 k (!t270) a0_0 l0_1 a1_0 a1_1 t245 t246 bt257.1 bt257.2)))) else (none)))) else (none)))))) = some r:=H
   have A21:=zm0_ A210
   clear A210
   replace H:=Option.bind_eq_some_iff.mp H
   obtain ⟨⟨t250,t251⟩,A220,H⟩:=H
   replace H : ((laws_toField.f a1_0 a1_1).bind fun bt255 => ((impl_AddField.f k t250 t251 bt255.1 bt255.2).bind fun bt257 => ((laws_eqTable.f k bt257.1 bt257.2 t245 t246).bind fun t262 => (if t262 = true then ((laws_toTable.f k a0_0 l0_1).bind fun bt263 => ((laws_eqTable.f k t250 t251 bt263.1 bt263.2).bind fun t267 => (if t267 = true then ((laws_markTable.f k t250 t251 1).bind fun bt268 => (if bt268.1 < 0 then (laws_FnExactAddField.j0 k true a0_0 l0_1 a1_0 a1_1 t245 t246 bt257.1 bt257.2) else ((laws_eqTable.f k bt257.1 bt257.2 t245 t246).bind fun t270 => (laws_FnExactAddField.j0 k (!t270) a0_0 l0_1 a1_0 a1_1 t245 t246 bt257.1 bt257.2)))) else (none)))) else (none))))) = some r:=H
   have A22:=zm0_ A220
   clear A220
   replace H:=Option.bind_eq_some_iff.mp H
   obtain ⟨⟨t255,t256⟩,A230,H⟩:=H
   replace H : ((impl_AddField.f k t250 t251 t255 t256).bind fun bt257 => ((laws_eqTable.f k bt257.1 bt257.2 t245 t246).bind fun t262 => (if t262 = true then ((laws_toTable.f k a0_0 l0_1).bind fun bt263 => ((laws_eqTable.f k t250 t251 bt263.1 bt263.2).bind fun t267 => (if t267 = true then ((laws_markTable.f k t250 t251 1).bind fun bt268 => (if bt268.1 < 0 then (laws_FnExactAddField.j0 k true a0_0 l0_1 a1_0 a1_1 t245 t246 bt257.1 bt257.2) else ((laws_eqTable.f k bt257.1 bt257.2 t245 t246).bind fun t270 => (laws_FnExactAddField.j0 k (!t270) a0_0 l0_1 a1_0 a1_1 t245 t246 bt257.1 bt257.2)))) else (none)))) else (none)))) = some r:=H
   have A23:=zm0_ A230
   clear A230
   replace H:=Option.bind_eq_some_iff.mp H
   obtain ⟨⟨t257,t258⟩,A240,H⟩:=H
   replace H : ((laws_eqTable.f k t257 t258 t245 t246).bind fun t262 => (if t262 = true then ((laws_toTable.f k a0_0 l0_1).bind fun bt263 => ((laws_eqTable.f k t250 t251 bt263.1 bt263.2).bind fun t267 => (if t267 = true then ((laws_markTable.f k t250 t251 1).bind fun bt268 => (if bt268.1 < 0 then (laws_FnExactAddField.j0 k true a0_0 l0_1 a1_0 a1_1 t245 t246 t257 t258) else ((laws_eqTable.f k t257 t258 t245 t246).bind fun t270 => (laws_FnExactAddField.j0 k (!t270) a0_0 l0_1 a1_0 a1_1 t245 t246 t257 t258)))) else (none)))) else (none))) = some r:=H
   have A24:=zm0_ A240
   clear A240
   replace H:=Option.bind_eq_some_iff.mp H
   obtain ⟨t262,A250,H⟩:=H
   replace H : (if t262 = true then ((laws_toTable.f k a0_0 l0_1).bind fun bt263 => ((laws_eqTable.f k t250 t251 bt263.1 bt263.2).bind fun t267 => (if t267 = true then ((laws_markTable.f k t250 t251 1).bind fun bt268 => (if bt268.1 < 0 then (laws_FnExactAddField.j0 k true a0_0 l0_1 a1_0 a1_1 t245 t246 t257 t258) else ((laws_eqTable.f k t257 t258 t245 t246).bind fun t270 => (laws_FnExactAddField.j0 k (!t270) a0_0 l0_1 a1_0 a1_1 t245 t246 t257 t258)))) else (none)))) else (none)) = some r:=H
   have A25:=zm0_ A250
   clear A250
   by_cases c26 : t262 = true
   ·
    subst c26
    have H1 : ((laws_toTable.f k a0_0 l0_1).bind fun bt263 => ((laws_eqTable.f k t250 t251 bt263.1 bt263.2).bind fun t267 => (if t267 = true then ((laws_markTable.f k t250 t251 1).bind fun bt268 => (if bt268.1 < 0 then (laws_FnExactAddField.j0 k true a0_0 l0_1 a1_0 a1_1 t245 t246 t257 t258) else ((laws_eqTable.f k t257 t258 t245 t246).bind fun t270 => (laws_FnExactAddField.j0 k (!t270) a0_0 l0_1 a1_0 a1_1 t245 t246 t257 t258)))) else (none)))) = some r:=by rw [if_pos rfl] at H;exact H
    clear H
    have H:=H1
    clear H1
    replace H:=Option.bind_eq_some_iff.mp H
    obtain ⟨⟨t263,t264⟩,A270,H⟩:=H
    replace H : ((laws_eqTable.f k t250 t251 t263 t264).bind fun t267 => (if t267 = true then ((laws_markTable.f k t250 t251 1).bind fun bt268 => (if bt268.1 < 0 then (laws_FnExactAddField.j0 k true a0_0 l0_1 a1_0 a1_1 t245 t246 t257 t258) else ((laws_eqTable.f k t257 t258 t245 t246).bind fun t270 => (laws_FnExactAddField.j0 k (!t270) a0_0 l0_1 a1_0 a1_1 t245 t246 t257 t258)))) else (none))) = some r:=H
    have A27:=zm0_ A270
    clear A270
    replace H:=Option.bind_eq_some_iff.mp H
    obtain ⟨t267,A280,H⟩:=H
    replace H : (if t267 = true then ((laws_markTable.f k t250 t251 1).bind fun bt268 => (if bt268.1 < 0 then (laws_FnExactAddField.j0 k true a0_0 l0_1 a1_0 a1_1 t245 t246 t257 t258) else ((laws_eqTable.f k t257 t258 t245 t246).bind fun t270 => (laws_FnExactAddField.j0 k (!t270) a0_0 l0_1 a1_0 a1_1 t245 t246 t257 t258)))) else (none)) = some r:=H
    have A28:=zm0_ A280
    clear A280
    by_cases c29 : t267 = true
    ·
     subst c29
     have H1 : ((laws_markTable.f k t250 t251 1).bind fun bt268 => (if bt268.1 < 0 then (laws_FnExactAddField.j0 k true a0_0 l0_1 a1_0 a1_1 t245 t246 t257 t258) else ((laws_eqTable.f k t257 t258 t245 t246).bind fun t270 => (laws_FnExactAddField.j0 k (!t270) a0_0 l0_1 a1_0 a1_1 t245 t246 t257 t258)))) = some r:=by rw [if_pos rfl] at H;exact H
     clear H
     have H:=H1
     clear H1
     replace H:=Option.bind_eq_some_iff.mp H
     obtain ⟨⟨t268,t269⟩,A300,H⟩:=H
     replace H : (if t268 < 0 then (laws_FnExactAddField.j0 k true a0_0 l0_1 a1_0 a1_1 t245 t246 t257 t258) else ((laws_eqTable.f k t257 t258 t245 t246).bind fun t270 => (laws_FnExactAddField.j0 k (!t270) a0_0 l0_1 a1_0 a1_1 t245 t246 t257 t258))) = some r:=H
     have A30:=zm0_ A300
     clear A300
     have HC31:=zm0_ H
     clear H
     go_enter Try.func9,Try.ntmps9
     try go_wp2_with (first|((with_reducible refine gate_dst (N:=2) rfl ?_);refine box_event ?hg (N:=2) ?hd (cs:=#[.int .i64 a0_0,.slice A0_1 l0_1.length c0_1]) (t:=47) ?hr ?_;(case hd => rfl);(case hg => rfl);(case hr => first|(go_simp;done)|(go_simp;rfl));intro gb235 hg w32 hbox hb;have n0_:=zm0_ (zn8_ (by repeat (first|(with_reducible first|exact HB.out|apply zm3_|apply zm2_|apply zm4_)|exact HB.out)) hb);have n1_:=zm0_ (hbox);have n2_:=zm0_ ((by rw [hg];exact (zn9_ (by repeat (first|(with_reducible first|exact HB.out|apply zm3_|apply zm2_|apply zm4_)|exact HB.out))) : w.heap.size ≤ gb235));have n3_:=zm0_ ((by rw [hg];exact (zn9_ (by repeat (first|(with_reducible first|exact HB.out|apply zm3_|apply zm2_|apply zm4_)|exact HB.out))) : w.heap.size ≤ gb235));clear HB;have HB:=n0_;have BK235:=n1_;have GW235:=n2_;have GE235:=n3_;clear n0_ n1_ n2_ n3_;clear hb hbox hg)|((with_reducible refine gate_dst (N:=3) rfl ?_);refine box_event ?hg (N:=3) ?hd (cs:=#[.string a1_0,.string a1_1]) (t:=69) ?hr ?_;(case hd => rfl);(case hg => rfl);(case hr => first|(go_simp;done)|(go_simp;rfl));intro gb236 hg w33 hbox hb;have n0_:=zm0_ (zm5_ (by (with_reducible repeat (first|refine k6_ ?_ _|refine k7_ ?_|refine k5_ ?_ _));exact BK235.out) hb);have n1_:=zm0_ (zn8_ (by repeat (first|(with_reducible first|exact HB.out|apply zm3_|apply zm2_|apply zm4_|refine zm1_ ?_ GE235.out)|exact HB.out)) hb);have n2_:=zm0_ (hbox);have n3_:=zm0_ ((by rw [hg];exact (zn9_ (by repeat (first|(with_reducible first|exact HB.out|apply zm3_|apply zm2_|apply zm4_|refine zm1_ ?_ GE235.out)|exact HB.out))) : w.heap.size ≤ gb236));have n4_:=zm0_ ((by rw [hg];exact (zn9_ (by repeat (first|(with_reducible first|exact HB.out|apply zm3_|apply zm2_|apply zm4_|refine zm1_ ?_ GE235.out)|exact HB.out))) : w.heap.size ≤ gb236));have n5_:=zm0_ ((by rw [hg];exact Nat.ne_of_lt (zo3_ (g:=gb235) (o:=.cells #[.int .i64 a0_0,.slice A0_1 l0_1.length c0_1] 47 (0,0)) (by (with_reducible repeat (first|refine k6_ ?_ _|refine k7_ ?_|refine k5_ ?_ _));exact BK235.out)) : gb235 ≠ gb236));have n6_:=zm0_ ((by rw [hg];exact Nat.ne_of_gt (zo3_ (g:=gb235) (o:=.cells #[.int .i64 a0_0,.slice A0_1 l0_1.length c0_1] 47 (0,0)) (by (with_reducible repeat (first|refine k6_ ?_ _|refine k7_ ?_|refine k5_ ?_ _));exact BK235.out)) : gb236 ≠ gb235));clear BK235;clear HB;have BK235:=n0_;have HB:=n1_;have BK236:=n2_;have GW236:=n3_;have GE236:=n4_;have NB235_236:=n5_;have NB236_235:=n6_;clear n0_ n1_ n2_ n3_ n4_ n5_ n6_;clear hb hbox hg;have hnb34:=NB235_236.out;have hnc34:=NB236_235.out;have hcz35_0 : w33.cell? ⟨gb235,0,none⟩ = some (.int .i64 a0_0):=(zm6_ BK235.out 0).trans rfl;have hcz35_1 : w33.cell? ⟨gb235,1,none⟩ = some (.slice A0_1 l0_1.length c0_1):=(zm6_ BK235.out 1).trans rfl;have hfz35_0:=zm7_ BK235.out 0;have hfz35_1:=zm7_ BK235.out 1)|((with_reducible refine gate_callee (f:=27) rfl ?_);refine goesL_ (some 15) rfl rfl Try.func27 (by kernel_rfl) rfl #[.agg #[.int .i64 a0_0,.slice A0_1 l0_1.length c0_1],.int .i64 1048576] rfl (by (try simp only [zp1_,zp2_,zp3_]);first|done|rfl|(simp only [zp4_,zp5_];rfl)) ?_;(with_reducible refine (laws_szTable.calls k a0_0 _ _ l0_1 1048576 t237 _ ?side1 ?side2 A3.out).mono ?_);(case side1 => repeat (first|exact (Kd.C_below HR0_1.out HB.out)|(with_reducible refine Kd.C_alloc ?_ _)|(with_reducible refine Kd.C_drewN ?_ _)|(with_reducible refine Kd.C_drew ?_)));(case side2 => exact HC0_1.out);rintro e w36 ⟨rfl,hb⟩;refine ⟨_,rfl,?_⟩;have n0_:=zm0_ (zm5_ (by (with_reducible repeat (first|refine k6_ ?_ _|refine k7_ ?_|refine k5_ ?_ _));exact BK235.out) hb);have n1_:=zm0_ (zm5_ (by (with_reducible repeat (first|refine k6_ ?_ _|refine k7_ ?_|refine k5_ ?_ _));exact BK236.out) hb);have n2_:=zm0_ (zn8_ (by repeat (first|(with_reducible first|exact HB.out|apply zm3_|apply zm2_|apply zm4_|refine zm1_ ?_ GE235.out|refine zm1_ ?_ GE236.out)|exact HB.out)) hb);clear BK235;clear BK236;clear HB;have BK235:=n0_;have BK236:=n1_;have HB:=n2_;clear n0_ n1_ n2_;(try clear hb);(try clear hb2);(try clear hk);(try clear hi);have hcz37_0 : w36.cell? ⟨gb236,0,none⟩ = some (.string a1_0):=(zm6_ BK236.out 0).trans rfl;have hcz37_1 : w36.cell? ⟨gb236,1,none⟩ = some (.string a1_1):=(zm6_ BK236.out 1).trans rfl;have hfz37_0:=zm7_ BK236.out 0;have hfz37_1:=zm7_ BK236.out 1)|((with_reducible refine gate_callee (f:=45) rfl ?_);refine goesL_ (some 20) rfl rfl Try.func45 (by kernel_rfl) rfl #[.agg #[.string a1_0,.string a1_1],.int .i64 t237] rfl (by (try simp only [zp1_,zp2_,zp3_]);first|done|rfl|(simp only [zp4_,zp5_];rfl)) ?_;(with_reducible refine (laws_szField.calls a1_0 a1_1 t237 t238 _ A10.out).mono ?_);rintro e w38 ⟨rfl,hb⟩;refine ⟨_,rfl,?_⟩;have n0_:=zm0_ (zm5_ (by (with_reducible repeat (first|refine k6_ ?_ _|refine k7_ ?_|refine k5_ ?_ _));exact BK235.out) hb);have n1_:=zm0_ (zm5_ (by (with_reducible repeat (first|refine k6_ ?_ _|refine k7_ ?_|refine k5_ ?_ _));exact BK236.out) hb);have n2_:=zm0_ (zn8_ (by repeat (first|(with_reducible first|exact HB.out|apply zm3_|apply zm2_|apply zm4_|refine zm1_ ?_ GE235.out|refine zm1_ ?_ GE236.out)|exact HB.out)) hb);clear BK235;clear BK236;clear HB;have BK235:=n0_;have BK236:=n1_;have HB:=n2_;clear n0_ n1_ n2_;(try clear hb);(try clear hb2);(try clear hk);(try clear hi)))
     have n0_:=zm0_ (k7_ BK235.out)
     have n1_:=zm0_ (k7_ BK236.out)
     have n2_:=zm0_ (zm4_ HB.out)
     clear BK235
     clear BK236
     clear HB
     have BK235:=n0_
     have BK236:=n1_
     have HB:=n2_
     clear n0_ n1_ n2_
     refine start_ (n:=7) (S:=fun w' => w'.cell? ⟨gb235,0,none⟩ = some (.int .i64 a0_0) ∧ w'.cell? ⟨gb235,1,none⟩ = some (.slice A0_1 l0_1.length c0_1) ∧ w'.cell? ⟨gb236,0,none⟩ = some (.string a1_0) ∧ w'.cell? ⟨gb236,1,none⟩ = some (.string a1_1)) (ds:=[]) #[Z,Z,Z,Z,Z,Z,Z] (by kernel_rfl) rfl rfl ⟨(zm6_ BK235.out 0).trans rfl,(zm6_ BK235.out 1).trans rfl,(zm6_ BK236.out 0).trans rfl,(zm6_ BK236.out 1).trans rfl⟩ (fun hHeld => ?_)
     generalize w38.drew = w39 at BK235 BK236 HB hHeld ⊢
     refine take_ (i:=0) (N:=some 23) (v:=?_) (a':=?_) #[Y,Z,Z,Z,Z,Z,Z] rfl rfl (by kernel_rfl) (fun _ _ _ h => h) (Or.inl ⟨by rfl,?_⟩) hHeld ?_ ?_
     rotate_left
     ·
      rintro w' ⟨s0,s1,s2,s3⟩
      go_simp
      with_reducible rfl
     rotate_left
     ·
      simp only [Act.put,lA_,lB_,lC_,i64_w,i32_w]
      rfl
     refine take_ (i:=2) (N:=some 25) (v:=?_) (a':=?_) #[Y,Z,Y,Z,Z,Z,Z] rfl rfl (by kernel_rfl) (fun _ _ _ h => h) (Or.inl ⟨by rfl,?_⟩) hHeld ?_ ?_
     rotate_left
     ·
      rintro w' ⟨s0,s1,s2,s3⟩
      go_simp
      with_reducible rfl
     rotate_left
     ·
      simp only [Act.put,lA_,lB_,lC_,i64_w,i32_w]
      rfl
     refine join_ (σ:=Value × Value × Nat) 1 #[Y,Y,Y,Y,Y,Y,Z] (fun s_ => [(24,.agg #[.int .i64 t239,s_.1]),(26,.agg #[.string t243,.string t244]),(27,.agg #[.int .i64 t245,s_.2.1]),(6,.pointer (some ⟨s_.2.2,0,none⟩))]) (fun s_ w' => (w'.cell? ⟨gb235,0,none⟩ = some (.int .i64 a0_0) ∧ w'.cell? ⟨gb235,1,none⟩ = some (.slice A0_1 l0_1.length c0_1) ∧ w'.cell? ⟨gb236,0,none⟩ = some (.string a1_0) ∧ w'.cell? ⟨gb236,1,none⟩ = some (.string a1_1)) ∧ (Kd.R k33 33 w' w.heap.size (fun _ => True) s_.1 t240) ∧ (Kd.V k33 33 w' w.heap.size (fun k_ => some k_ ≠ (s_.1 : Value).ownBlock ∧ k_ ≠ gb235 ∧ k_ ≠ gb236 ∧ k_ ≠ s_.2.2) s_.2.1 t246) ∧ (w'.heap[gb235]? = some (.cells #[.int .i64 a0_0,.slice A0_1 l0_1.length c0_1] 47 (0,0))) ∧ (w'.heap[gb236]? = some (.cells #[.string a1_0,.string a1_1] 69 (0,0))) ∧ (w'.heap[s_.2.2]? = some (.cells #[.int .i64 0,.slice none 0 0] 26 (0,0))) ∧ (w.heap.size ≤ s_.2.2) ∧ (w.heap.size ≤ s_.2.2) ∧ (gb235 ≠ s_.2.2) ∧ (s_.2.2 ≠ gb235) ∧ (gb236 ≠ s_.2.2) ∧ (s_.2.2 ≠ gb236) ∧ (Below w.heap.size w w')) ?_ ?_
     rotate_left
     ·
      intro hCont
      refine two_ (i:=1) (j:=5) (Ni:=some 24) (Nj:=some 6) #[Y,Y,Y,Z,Z,Z,Z] #[Y,Z,Y,Z,Z,Y,Z] rfl rfl rfl rfl (by kernel_rfl) (by decide) (by decide) (fun K hK => ?_) (fun K hK => ?_)
      ·
       skip
       refine goes_ Try.func29 (by kernel_rfl) rfl #[.agg #[.int .i64 a0_0,.slice A0_1 l0_1.length c0_1]] (by rfl) rfl rfl (by (try simp only [zp1_,zp2_,zp3_]);first|done|rfl|(simp only [zp4_,zp5_];rfl)) ?_
       with_reducible refine (laws_toTable.calls k a0_0 _ _ l0_1 t239 t240 _ ?side1 ?side2 A19.out).mono ?_
       (case side1 => repeat (first|exact (Kd.C_below HR0_1.out HB.out)|(with_reducible refine Kd.C_alloc ?_ _)|(with_reducible refine Kd.C_drewN ?_ _)|(with_reducible refine Kd.C_drew ?_)))
       (case side2 => exact HC0_1.out)
       rintro e w40 ⟨v241,rfl,ho0,hb⟩
       refine ⟨_,rfl,?_⟩
       have n0_:=zm0_ (zo1_ ho0 (zn9_ (by repeat (first|(with_reducible first|exact HB.out|apply zm3_|apply zm2_|apply zm4_|refine zm1_ ?_ GE235.out|refine zm1_ ?_ GE236.out)|exact HB.out))))
       have n1_:=zm0_ (zm5_ (by (with_reducible repeat (first|refine k6_ ?_ _|refine k7_ ?_|refine k5_ ?_ _));exact BK235.out) hb)
       have n2_:=zm0_ (zm5_ (by (with_reducible repeat (first|refine k6_ ?_ _|refine k7_ ?_|refine k5_ ?_ _));exact BK236.out) hb)
       have n3_:=zm0_ (zn8_ (by repeat (first|(with_reducible first|exact HB.out|apply zm3_|apply zm2_|apply zm4_|refine zm1_ ?_ GE235.out|refine zm1_ ?_ GE236.out)|exact HB.out)) hb)
       clear BK235
       clear BK236
       clear HB
       have HO242:=n0_
       have BK235:=n1_
       have BK236:=n2_
       have HB:=n3_
       clear n0_ n1_ n2_ n3_
       (try clear hb)
       (try clear hb2)
       (try clear hk)
       (try clear hi)
       (try clear ho0)
       refine hK.out _ _ ⟨(zm6_ BK235.out 0).trans rfl,(zm6_ BK235.out 1).trans rfl,(zm6_ BK236.out 0).trans rfl,(zm6_ BK236.out 1).trans rfl⟩ (fun hHeld => ?_)
       clear hK K
       refine norm_ (a':=?_) ?_ ?_
       rotate_left
       ·
        show Act.put _ (some 24) _ = _
        simp only [Act.put,lA_,lB_,lC_,i64_w,i32_w]
        rfl
       refine two_ (i:=3) (j:=5) (Ni:=some 26) (Nj:=some 6) #[Y,Y,Y,Y,Z,Z,Z] #[Y,Y,Y,Z,Z,Y,Z] rfl rfl rfl rfl (by kernel_rfl) (by decide) (by decide) (fun K hK => ?_) (fun K hK => ?_)
       ·
        skip
        refine goes_ Try.func47 (by kernel_rfl) rfl #[.agg #[.string a1_0,.string a1_1]] (by rfl) rfl rfl (by (try simp only [zp1_,zp2_,zp3_]);first|done|rfl|(simp only [zp4_,zp5_];rfl)) ?_
        with_reducible refine (laws_toField.calls a1_0 a1_1 t243 t244 _ A20.out).mono ?_
        rintro e w41 ⟨rfl,hb⟩
        refine ⟨_,rfl,?_⟩
        have n0_:=zm0_ (zm8_ (by (with_reducible repeat (first|apply k1_|apply k2_|apply k3_));exact HO242.out) hb)
        have n1_:=zm0_ (zm5_ (by (with_reducible repeat (first|refine k6_ ?_ _|refine k7_ ?_|refine k5_ ?_ _));exact BK235.out) hb)
        have n2_:=zm0_ (zm5_ (by (with_reducible repeat (first|refine k6_ ?_ _|refine k7_ ?_|refine k5_ ?_ _));exact BK236.out) hb)
        have n3_:=zm0_ (zn8_ (by repeat (first|(with_reducible first|exact HB.out|apply zm3_|apply zm2_|apply zm4_|refine zm1_ ?_ GE235.out|refine zm1_ ?_ GE236.out)|exact HB.out)) hb)
        clear HO242
        clear BK235
        clear BK236
        clear HB
        have HO242:=n0_
        have BK235:=n1_
        have BK236:=n2_
        have HB:=n3_
        clear n0_ n1_ n2_ n3_
        (try clear hb)
        (try clear hb2)
        (try clear hk)
        (try clear hi)
        obtain ⟨Ao42,co42,eo42⟩:=Kd.R_slice HO242.out
        (first|subst eo42|(injection eo42 with f1_ f2_ f3_;have f4_:=f1_.symm;have f5_:=f3_.symm;clear f1_ f2_ f3_;subst f4_;subst f5_))
        refine hK.out _ _ ⟨(zm6_ BK235.out 0).trans rfl,(zm6_ BK235.out 1).trans rfl,(zm6_ BK236.out 0).trans rfl,(zm6_ BK236.out 1).trans rfl⟩ (fun hHeld => ?_)
        clear hK K
        refine norm_ (a':=?_) ?_ ?_
        rotate_left
        ·
         show Act.put _ (some 26) _ = _
         simp only [Act.put,lA_,lB_,lC_,i64_w,i32_w]
         rfl
        refine two_ (i:=4) (j:=5) (Ni:=some 27) (Nj:=some 6) #[Y,Y,Y,Y,Y,Z,Z] #[Y,Y,Y,Y,Z,Y,Z] rfl rfl rfl rfl (by kernel_rfl) (by decide) (by decide) (fun K hK => ?_) (fun K hK => ?_)
        ·
         skip
         refine goes_ Try.func46 (by kernel_rfl) rfl #[.agg #[.int .i64 t239,.slice Ao42 t240.length co42],.agg #[.string t243,.string t244]] (by rfl) rfl rfl (by (try simp only [zp1_,zp2_,zp3_]);first|done|rfl|(simp only [zp4_,zp5_];rfl)) ?_
         with_reducible refine (spec_AddField.calls k t239 _ _ t240 t243 t244 t245 t246 _ ?side1 ?side2 A21.out).mono ?_
         (case side1 => repeat (first|exact (Kd.R_reads' HO242.out).2.2|(with_reducible refine Kd.C_alloc ?_ _)|(with_reducible refine Kd.C_drewN ?_ _)|(with_reducible refine Kd.C_drew ?_)))
         (case side2 => exact (Kd.R_reads' HO242.out).2.1)
         rintro e w43 ⟨v247,rfl,ho0,hb⟩
         refine ⟨_,rfl,?_⟩
         have n0_:=zm0_ (zm8_ (by (with_reducible repeat (first|apply k1_|apply k2_|apply k3_));exact HO242.out) hb)
         have n1_:=zm0_ (Kd.V_lower (Kd.V_mono (ok':=fun k_ => some k_ ≠ (.slice Ao42 t240.length co42 : Value).ownBlock ∧ k_ ≠ gb235 ∧ k_ ≠ gb236) ho0 (fun k_ hk_ => ⟨(Kd.fresh' (Kd.R_lt (by (with_reducible repeat (first|apply k1_|apply k2_|apply k3_));exact HO242.out)) k_ hk_),(Kd.freshB (g:=gb235) (o:=.cells #[.int .i64 a0_0,.slice A0_1 l0_1.length c0_1] 47 (0,0)) (by (with_reducible repeat (first|refine k6_ ?_ _|refine k7_ ?_|refine k5_ ?_ _));exact BK235.out) k_ hk_),(Kd.freshB (g:=gb236) (o:=.cells #[.string a1_0,.string a1_1] 69 (0,0)) (by (with_reducible repeat (first|refine k6_ ?_ _|refine k7_ ?_|refine k5_ ?_ _));exact BK236.out) k_ hk_)⟩)) (zn9_ (by repeat (first|(with_reducible first|exact HB.out|apply zm3_|apply zm2_|apply zm4_|refine zm1_ ?_ GE235.out|refine zm1_ ?_ GE236.out)|exact HB.out))))
         have n2_:=zm0_ (zm5_ (by (with_reducible repeat (first|refine k6_ ?_ _|refine k7_ ?_|refine k5_ ?_ _));exact BK235.out) hb)
         have n3_:=zm0_ (zm5_ (by (with_reducible repeat (first|refine k6_ ?_ _|refine k7_ ?_|refine k5_ ?_ _));exact BK236.out) hb)
         have n4_:=zm0_ (zn8_ (by repeat (first|(with_reducible first|exact HB.out|apply zm3_|apply zm2_|apply zm4_|refine zm1_ ?_ GE235.out|refine zm1_ ?_ GE236.out)|exact HB.out)) hb)
         clear HO242
         clear BK235
         clear BK236
         clear HB
         have HO242:=n0_
         have HO248:=n1_
         have BK235:=n2_
         have BK236:=n3_
         have HB:=n4_
         clear n0_ n1_ n2_ n3_ n4_
         (try clear hb)
         (try clear hb2)
         (try clear hk)
         (try clear hi)
         (try clear ho0)
         refine hK.out _ _ ⟨(zm6_ BK235.out 0).trans rfl,(zm6_ BK235.out 1).trans rfl,(zm6_ BK236.out 0).trans rfl,(zm6_ BK236.out 1).trans rfl⟩ (fun hHeld => ?_)
         clear hK K
         refine norm_ (a':=?_) ?_ ?_
         rotate_left
         ·
          show Act.put _ (some 27) _ = _
          simp only [Act.put,lA_,lB_,lC_,i64_w,i32_w]
          rfl
         refine one_ (i:=5) (N:=some 6) #[Y,Y,Y,Y,Y,Y,Z] rfl rfl (by kernel_rfl) (by decide) (fun K hK => ?_)
         refine box_step ?hg (N:=6) ?hd (cs:=#[.int .i64 0,.slice none 0 0]) (t:=26) ?hr ?_;(case hd => rfl);(case hg => rfl);(case hr => first|(go_simp;done)|(go_simp;rfl))
         intro gb249 hg w44 hbox hb
         have n0_:=zm0_ (zm8_ (by (with_reducible repeat (first|apply k1_|apply k2_|apply k3_));exact HO242.out) hb)
         have n1_:=zm0_ (zm9_ (Kd.V_elderB (by (with_reducible repeat (first|apply zn5_|apply zn6_|apply zn7_));exact HO248.out) gb249 (Nat.le_of_eq hg.symm)) hb)
         have n2_:=zm0_ (zm5_ (by (with_reducible repeat (first|refine k6_ ?_ _|refine k7_ ?_|refine k5_ ?_ _));exact BK235.out) hb)
         have n3_:=zm0_ (zm5_ (by (with_reducible repeat (first|refine k6_ ?_ _|refine k7_ ?_|refine k5_ ?_ _));exact BK236.out) hb)
         have n4_:=zm0_ (zn8_ (by repeat (first|(with_reducible first|exact HB.out|apply zm3_|apply zm2_|apply zm4_|refine zm1_ ?_ GE235.out|refine zm1_ ?_ GE236.out)|exact HB.out)) hb)
         have n5_:=zm0_ (hbox)
         have n6_:=zm0_ ((by rw [hg];exact (zn9_ (by repeat (first|(with_reducible first|exact HB.out|apply zm3_|apply zm2_|apply zm4_|refine zm1_ ?_ GE235.out|refine zm1_ ?_ GE236.out)|exact HB.out))) : w.heap.size ≤ gb249))
         have n7_:=zm0_ ((by rw [hg];exact (zn9_ (by repeat (first|(with_reducible first|exact HB.out|apply zm3_|apply zm2_|apply zm4_|refine zm1_ ?_ GE235.out|refine zm1_ ?_ GE236.out)|exact HB.out))) : w.heap.size ≤ gb249))
         have n8_:=zm0_ ((by rw [hg];exact Nat.ne_of_lt (zo3_ (g:=gb235) (o:=.cells #[.int .i64 a0_0,.slice A0_1 l0_1.length c0_1] 47 (0,0)) (by (with_reducible repeat (first|refine k6_ ?_ _|refine k7_ ?_|refine k5_ ?_ _));exact BK235.out)) : gb235 ≠ gb249))
         have n9_:=zm0_ ((by rw [hg];exact Nat.ne_of_gt (zo3_ (g:=gb235) (o:=.cells #[.int .i64 a0_0,.slice A0_1 l0_1.length c0_1] 47 (0,0)) (by (with_reducible repeat (first|refine k6_ ?_ _|refine k7_ ?_|refine k5_ ?_ _));exact BK235.out)) : gb249 ≠ gb235))
         have n10_:=zm0_ ((by rw [hg];exact Nat.ne_of_lt (zo3_ (g:=gb236) (o:=.cells #[.string a1_0,.string a1_1] 69 (0,0)) (by (with_reducible repeat (first|refine k6_ ?_ _|refine k7_ ?_|refine k5_ ?_ _));exact BK236.out)) : gb236 ≠ gb249))
         have n11_:=zm0_ ((by rw [hg];exact Nat.ne_of_gt (zo3_ (g:=gb236) (o:=.cells #[.string a1_0,.string a1_1] 69 (0,0)) (by (with_reducible repeat (first|refine k6_ ?_ _|refine k7_ ?_|refine k5_ ?_ _));exact BK236.out)) : gb249 ≠ gb236))
         clear HO242
         clear HO248
         clear BK235
         clear BK236
         clear HB
         have HO242:=n0_
         have HO248:=n1_
         have BK235:=n2_
         have BK236:=n3_
         have HB:=n4_
         have BK249:=n5_
         have GW249:=n6_
         have GE249:=n7_
         have NB235_249:=n8_
         have NB249_235:=n9_
         have NB236_249:=n10_
         have NB249_236:=n11_
         clear n0_ n1_ n2_ n3_ n4_ n5_ n6_ n7_ n8_ n9_ n10_ n11_
         clear hb hbox hg
         refine hK.out _ _ ⟨(zm6_ BK235.out 0).trans rfl,(zm6_ BK235.out 1).trans rfl,(zm6_ BK236.out 0).trans rfl,(zm6_ BK236.out 1).trans rfl⟩ (fun hHeld => ?_)
         clear hK K
         refine norm_ (a':=?_) ?_ ?_
         rotate_left
         ·
          show Act.put _ (some 6) _ = _
          simp only [Act.put,lA_,lB_,lC_,i64_w,i32_w]
          rfl
         exact norm_ (by simp only [putAll,Act.put,lA_,lB_,lC_]) (hCont (.slice Ao42 t240.length co42,v247,gb249) _ ⟨hHeld,(by (with_reducible repeat (first|apply k1_|apply k2_|apply k3_));exact HO242.out),(by (with_reducible repeat (first|apply zn5_|apply zn6_|apply zn7_));exact Kd.V_mono HO248.out (fun _ hk => ⟨(by first|exact hk.1.1|(have hq_:=hk;simp only [ne_eq] at hq_ ⊢;simp only [hq_,k8_,and_self])),⟨(by first|exact hk.1.2.1|(have hq_:=hk;simp only [ne_eq] at hq_ ⊢;simp only [hq_,k8_,and_self])),⟨(by first|exact hk.1.2.2|(have hq_:=hk;simp only [ne_eq] at hq_ ⊢;simp only [hq_,k8_,and_self])),(by first|exact hk.2|(have hq_:=hk;simp only [ne_eq] at hq_ ⊢;simp only [hq_,k8_,and_self]))⟩⟩⟩)),(by (with_reducible repeat (first|refine k6_ ?_ _|refine k7_ ?_|refine k5_ ?_ _));exact BK235.out),(by (with_reducible repeat (first|refine k6_ ?_ _|refine k7_ ?_|refine k5_ ?_ _));exact BK236.out),(by (with_reducible repeat (first|refine k6_ ?_ _|refine k7_ ?_|refine k5_ ?_ _));exact BK249.out),GW249.out,GE249.out,NB235_249.out,NB249_235.out,NB236_249.out,NB249_236.out,(by repeat (first|(with_reducible first|exact HB.out|apply zm3_|apply zm2_|apply zm4_|refine zm1_ ?_ GE235.out|refine zm1_ ?_ GE236.out|refine zm1_ ?_ GE249.out)|exact HB.out))⟩)
        ·
         skip
         refine box_step ?hg (N:=6) ?hd (cs:=#[.int .i64 0,.slice none 0 0]) (t:=26) ?hr ?_;(case hd => rfl);(case hg => rfl);(case hr => first|(go_simp;done)|(go_simp;rfl))
         intro gb249 hg w42 hbox hb
         have n0_:=zm0_ (zm8_ (by (with_reducible repeat (first|apply k1_|apply k2_|apply k3_));exact HO242.out) hb)
         have n1_:=zm0_ (zm5_ (by (with_reducible repeat (first|refine k6_ ?_ _|refine k7_ ?_|refine k5_ ?_ _));exact BK235.out) hb)
         have n2_:=zm0_ (zm5_ (by (with_reducible repeat (first|refine k6_ ?_ _|refine k7_ ?_|refine k5_ ?_ _));exact BK236.out) hb)
         have n3_:=zm0_ (zn8_ (by repeat (first|(with_reducible first|exact HB.out|apply zm3_|apply zm2_|apply zm4_|refine zm1_ ?_ GE235.out|refine zm1_ ?_ GE236.out)|exact HB.out)) hb)
         have n4_:=zm0_ (hbox)
         have n5_:=zm0_ ((by rw [hg];exact (zn9_ (by repeat (first|(with_reducible first|exact HB.out|apply zm3_|apply zm2_|apply zm4_|refine zm1_ ?_ GE235.out|refine zm1_ ?_ GE236.out)|exact HB.out))) : w.heap.size ≤ gb249))
         have n6_:=zm0_ ((by rw [hg];exact (zn9_ (by repeat (first|(with_reducible first|exact HB.out|apply zm3_|apply zm2_|apply zm4_|refine zm1_ ?_ GE235.out|refine zm1_ ?_ GE236.out)|exact HB.out))) : w.heap.size ≤ gb249))
         have n7_:=zm0_ ((by rw [hg];exact Nat.ne_of_lt (zo3_ (g:=gb235) (o:=.cells #[.int .i64 a0_0,.slice A0_1 l0_1.length c0_1] 47 (0,0)) (by (with_reducible repeat (first|refine k6_ ?_ _|refine k7_ ?_|refine k5_ ?_ _));exact BK235.out)) : gb235 ≠ gb249))
         have n8_:=zm0_ ((by rw [hg];exact Nat.ne_of_gt (zo3_ (g:=gb235) (o:=.cells #[.int .i64 a0_0,.slice A0_1 l0_1.length c0_1] 47 (0,0)) (by (with_reducible repeat (first|refine k6_ ?_ _|refine k7_ ?_|refine k5_ ?_ _));exact BK235.out)) : gb249 ≠ gb235))
         have n9_:=zm0_ ((by rw [hg];exact Nat.ne_of_lt (zo3_ (g:=gb236) (o:=.cells #[.string a1_0,.string a1_1] 69 (0,0)) (by (with_reducible repeat (first|refine k6_ ?_ _|refine k7_ ?_|refine k5_ ?_ _));exact BK236.out)) : gb236 ≠ gb249))
         have n10_:=zm0_ ((by rw [hg];exact Nat.ne_of_gt (zo3_ (g:=gb236) (o:=.cells #[.string a1_0,.string a1_1] 69 (0,0)) (by (with_reducible repeat (first|refine k6_ ?_ _|refine k7_ ?_|refine k5_ ?_ _));exact BK236.out)) : gb249 ≠ gb236))
         clear HO242
         clear BK235
         clear BK236
         clear HB
         have HO242:=n0_
         have BK235:=n1_
         have BK236:=n2_
         have HB:=n3_
         have BK249:=n4_
         have GW249:=n5_
         have GE249:=n6_
         have NB235_249:=n7_
         have NB249_235:=n8_
         have NB236_249:=n9_
         have NB249_236:=n10_
         clear n0_ n1_ n2_ n3_ n4_ n5_ n6_ n7_ n8_ n9_ n10_
         clear hb hbox hg
         obtain ⟨Ao43,co43,eo43⟩:=Kd.R_slice HO242.out
         (first|subst eo43|(injection eo43 with f1_ f2_ f3_;have f4_:=f1_.symm;have f5_:=f3_.symm;clear f1_ f2_ f3_;subst f4_;subst f5_))
         refine hK.out _ _ ⟨(zm6_ BK235.out 0).trans rfl,(zm6_ BK235.out 1).trans rfl,(zm6_ BK236.out 0).trans rfl,(zm6_ BK236.out 1).trans rfl⟩ (fun hHeld => ?_)
         clear hK K
         refine norm_ (a':=?_) ?_ ?_
         rotate_left
         ·
          show Act.put _ (some 6) _ = _
          simp only [Act.put,lA_,lB_,lC_,i64_w,i32_w]
          rfl
         refine one_ (i:=4) (N:=some 27) #[Y,Y,Y,Y,Y,Y,Z] rfl rfl (by kernel_rfl) (by decide) (fun K hK => ?_)
         refine goes_ Try.func46 (by kernel_rfl) rfl #[.agg #[.int .i64 t239,.slice Ao43 t240.length co43],.agg #[.string t243,.string t244]] (by rfl) rfl rfl (by (try simp only [zp1_,zp2_,zp3_]);first|done|rfl|(simp only [zp4_,zp5_];rfl)) ?_
         with_reducible refine (spec_AddField.calls k t239 _ _ t240 t243 t244 t245 t246 _ ?side1 ?side2 A21.out).mono ?_
         (case side1 => repeat (first|exact (Kd.R_reads' HO242.out).2.2|(with_reducible refine Kd.C_alloc ?_ _)|(with_reducible refine Kd.C_drewN ?_ _)|(with_reducible refine Kd.C_drew ?_)))
         (case side2 => exact (Kd.R_reads' HO242.out).2.1)
         rintro e w44 ⟨v247,rfl,ho0,hb⟩
         refine ⟨_,rfl,?_⟩
         have n0_:=zm0_ (zm8_ (by (with_reducible repeat (first|apply k1_|apply k2_|apply k3_));exact HO242.out) hb)
         have n1_:=zm0_ (Kd.V_lower (Kd.V_mono (ok':=fun k_ => some k_ ≠ (.slice Ao43 t240.length co43 : Value).ownBlock ∧ k_ ≠ gb235 ∧ k_ ≠ gb236 ∧ k_ ≠ gb249) ho0 (fun k_ hk_ => ⟨(Kd.fresh' (Kd.R_lt (by (with_reducible repeat (first|apply k1_|apply k2_|apply k3_));exact HO242.out)) k_ hk_),(Kd.freshB (g:=gb235) (o:=.cells #[.int .i64 a0_0,.slice A0_1 l0_1.length c0_1] 47 (0,0)) (by (with_reducible repeat (first|refine k6_ ?_ _|refine k7_ ?_|refine k5_ ?_ _));exact BK235.out) k_ hk_),(Kd.freshB (g:=gb236) (o:=.cells #[.string a1_0,.string a1_1] 69 (0,0)) (by (with_reducible repeat (first|refine k6_ ?_ _|refine k7_ ?_|refine k5_ ?_ _));exact BK236.out) k_ hk_),(Kd.freshB (g:=gb249) (o:=.cells #[.int .i64 0,.slice none 0 0] 26 (0,0)) (by (with_reducible repeat (first|refine k6_ ?_ _|refine k7_ ?_|refine k5_ ?_ _));exact BK249.out) k_ hk_)⟩)) (zn9_ (by repeat (first|(with_reducible first|exact HB.out|apply zm3_|apply zm2_|apply zm4_|refine zm1_ ?_ GE235.out|refine zm1_ ?_ GE236.out|refine zm1_ ?_ GE249.out)|exact HB.out))))
         have n2_:=zm0_ (zm5_ (by (with_reducible repeat (first|refine k6_ ?_ _|refine k7_ ?_|refine k5_ ?_ _));exact BK235.out) hb)
         have n3_:=zm0_ (zm5_ (by (with_reducible repeat (first|refine k6_ ?_ _|refine k7_ ?_|refine k5_ ?_ _));exact BK236.out) hb)
         have n4_:=zm0_ (zm5_ (by (with_reducible repeat (first|refine k6_ ?_ _|refine k7_ ?_|refine k5_ ?_ _));exact BK249.out) hb)
         have n5_:=zm0_ (zn8_ (by repeat (first|(with_reducible first|exact HB.out|apply zm3_|apply zm2_|apply zm4_|refine zm1_ ?_ GE235.out|refine zm1_ ?_ GE236.out|refine zm1_ ?_ GE249.out)|exact HB.out)) hb)
         clear HO242
         clear BK235
         clear BK236
         clear BK249
         clear HB
         have HO242:=n0_
         have HO248:=n1_
         have BK235:=n2_
         have BK236:=n3_
         have BK249:=n4_
         have HB:=n5_
         clear n0_ n1_ n2_ n3_ n4_ n5_
         (try clear hb)
         (try clear hb2)
         (try clear hk)
         (try clear hi)
         (try clear ho0)
         refine hK.out _ _ ⟨(zm6_ BK235.out 0).trans rfl,(zm6_ BK235.out 1).trans rfl,(zm6_ BK236.out 0).trans rfl,(zm6_ BK236.out 1).trans rfl⟩ (fun hHeld => ?_)
         clear hK K
         refine norm_ (a':=?_) ?_ ?_
         rotate_left
         ·
          show Act.put _ (some 27) _ = _
          simp only [Act.put,lA_,lB_,lC_,i64_w,i32_w]
          rfl
         exact norm_ (by simp only [putAll,Act.put,lA_,lB_,lC_]) (hCont (.slice Ao43 t240.length co43,v247,gb249) _ ⟨hHeld,(by (with_reducible repeat (first|apply k1_|apply k2_|apply k3_));exact HO242.out),(by (with_reducible repeat (first|apply zn5_|apply zn6_|apply zn7_));exact HO248.out),(by (with_reducible repeat (first|refine k6_ ?_ _|refine k7_ ?_|refine k5_ ?_ _));exact BK235.out),(by (with_reducible repeat (first|refine k6_ ?_ _|refine k7_ ?_|refine k5_ ?_ _));exact BK236.out),(by (with_reducible repeat (first|refine k6_ ?_ _|refine k7_ ?_|refine k5_ ?_ _));exact BK249.out),GW249.out,GE249.out,NB235_249.out,NB249_235.out,NB236_249.out,NB249_236.out,(by repeat (first|(with_reducible first|exact HB.out|apply zm3_|apply zm2_|apply zm4_|refine zm1_ ?_ GE235.out|refine zm1_ ?_ GE236.out|refine zm1_ ?_ GE249.out)|exact HB.out))⟩)
       ·
        skip
        refine box_step ?hg (N:=6) ?hd (cs:=#[.int .i64 0,.slice none 0 0]) (t:=26) ?hr ?_;(case hd => rfl);(case hg => rfl);(case hr => first|(go_simp;done)|(go_simp;rfl))
        intro gb249 hg w41 hbox hb
        have n0_:=zm0_ (zm8_ (by (with_reducible repeat (first|apply k1_|apply k2_|apply k3_));exact HO242.out) hb)
        have n1_:=zm0_ (zm5_ (by (with_reducible repeat (first|refine k6_ ?_ _|refine k7_ ?_|refine k5_ ?_ _));exact BK235.out) hb)
        have n2_:=zm0_ (zm5_ (by (with_reducible repeat (first|refine k6_ ?_ _|refine k7_ ?_|refine k5_ ?_ _));exact BK236.out) hb)
        have n3_:=zm0_ (zn8_ (by repeat (first|(with_reducible first|exact HB.out|apply zm3_|apply zm2_|apply zm4_|refine zm1_ ?_ GE235.out|refine zm1_ ?_ GE236.out)|exact HB.out)) hb)
        have n4_:=zm0_ (hbox)
        have n5_:=zm0_ ((by rw [hg];exact (zn9_ (by repeat (first|(with_reducible first|exact HB.out|apply zm3_|apply zm2_|apply zm4_|refine zm1_ ?_ GE235.out|refine zm1_ ?_ GE236.out)|exact HB.out))) : w.heap.size ≤ gb249))
        have n6_:=zm0_ ((by rw [hg];exact (zn9_ (by repeat (first|(with_reducible first|exact HB.out|apply zm3_|apply zm2_|apply zm4_|refine zm1_ ?_ GE235.out|refine zm1_ ?_ GE236.out)|exact HB.out))) : w.heap.size ≤ gb249))
        have n7_:=zm0_ ((by rw [hg];exact Nat.ne_of_lt (zo3_ (g:=gb235) (o:=.cells #[.int .i64 a0_0,.slice A0_1 l0_1.length c0_1] 47 (0,0)) (by (with_reducible repeat (first|refine k6_ ?_ _|refine k7_ ?_|refine k5_ ?_ _));exact BK235.out)) : gb235 ≠ gb249))
        have n8_:=zm0_ ((by rw [hg];exact Nat.ne_of_gt (zo3_ (g:=gb235) (o:=.cells #[.int .i64 a0_0,.slice A0_1 l0_1.length c0_1] 47 (0,0)) (by (with_reducible repeat (first|refine k6_ ?_ _|refine k7_ ?_|refine k5_ ?_ _));exact BK235.out)) : gb249 ≠ gb235))
        have n9_:=zm0_ ((by rw [hg];exact Nat.ne_of_lt (zo3_ (g:=gb236) (o:=.cells #[.string a1_0,.string a1_1] 69 (0,0)) (by (with_reducible repeat (first|refine k6_ ?_ _|refine k7_ ?_|refine k5_ ?_ _));exact BK236.out)) : gb236 ≠ gb249))
        have n10_:=zm0_ ((by rw [hg];exact Nat.ne_of_gt (zo3_ (g:=gb236) (o:=.cells #[.string a1_0,.string a1_1] 69 (0,0)) (by (with_reducible repeat (first|refine k6_ ?_ _|refine k7_ ?_|refine k5_ ?_ _));exact BK236.out)) : gb249 ≠ gb236))
        clear HO242
        clear BK235
        clear BK236
        clear HB
        have HO242:=n0_
        have BK235:=n1_
        have BK236:=n2_
        have HB:=n3_
        have BK249:=n4_
        have GW249:=n5_
        have GE249:=n6_
        have NB235_249:=n7_
        have NB249_235:=n8_
        have NB236_249:=n9_
        have NB249_236:=n10_
        clear n0_ n1_ n2_ n3_ n4_ n5_ n6_ n7_ n8_ n9_ n10_
        clear hb hbox hg
        refine hK.out _ _ ⟨(zm6_ BK235.out 0).trans rfl,(zm6_ BK235.out 1).trans rfl,(zm6_ BK236.out 0).trans rfl,(zm6_ BK236.out 1).trans rfl⟩ (fun hHeld => ?_)
        clear hK K
        refine norm_ (a':=?_) ?_ ?_
        rotate_left
        ·
         show Act.put _ (some 6) _ = _
         simp only [Act.put,lA_,lB_,lC_,i64_w,i32_w]
         rfl
        refine one_ (i:=3) (N:=some 26) #[Y,Y,Y,Y,Z,Y,Z] rfl rfl (by kernel_rfl) (by decide) (fun K hK => ?_)
        refine goes_ Try.func47 (by kernel_rfl) rfl #[.agg #[.string a1_0,.string a1_1]] (by rfl) rfl rfl (by (try simp only [zp1_,zp2_,zp3_]);first|done|rfl|(simp only [zp4_,zp5_];rfl)) ?_
        with_reducible refine (laws_toField.calls a1_0 a1_1 t243 t244 _ A20.out).mono ?_
        rintro e w42 ⟨rfl,hb⟩
        refine ⟨_,rfl,?_⟩
        have n0_:=zm0_ (zm8_ (by (with_reducible repeat (first|apply k1_|apply k2_|apply k3_));exact HO242.out) hb)
        have n1_:=zm0_ (zm5_ (by (with_reducible repeat (first|refine k6_ ?_ _|refine k7_ ?_|refine k5_ ?_ _));exact BK235.out) hb)
        have n2_:=zm0_ (zm5_ (by (with_reducible repeat (first|refine k6_ ?_ _|refine k7_ ?_|refine k5_ ?_ _));exact BK236.out) hb)
        have n3_:=zm0_ (zm5_ (by (with_reducible repeat (first|refine k6_ ?_ _|refine k7_ ?_|refine k5_ ?_ _));exact BK249.out) hb)
        have n4_:=zm0_ (zn8_ (by repeat (first|(with_reducible first|exact HB.out|apply zm3_|apply zm2_|apply zm4_|refine zm1_ ?_ GE235.out|refine zm1_ ?_ GE236.out|refine zm1_ ?_ GE249.out)|exact HB.out)) hb)
        clear HO242
        clear BK235
        clear BK236
        clear BK249
        clear HB
        have HO242:=n0_
        have BK235:=n1_
        have BK236:=n2_
        have BK249:=n3_
        have HB:=n4_
        clear n0_ n1_ n2_ n3_ n4_
        (try clear hb)
        (try clear hb2)
        (try clear hk)
        (try clear hi)
        obtain ⟨Ao43,co43,eo43⟩:=Kd.R_slice HO242.out
        (first|subst eo43|(injection eo43 with f1_ f2_ f3_;have f4_:=f1_.symm;have f5_:=f3_.symm;clear f1_ f2_ f3_;subst f4_;subst f5_))
        refine hK.out _ _ ⟨(zm6_ BK235.out 0).trans rfl,(zm6_ BK235.out 1).trans rfl,(zm6_ BK236.out 0).trans rfl,(zm6_ BK236.out 1).trans rfl⟩ (fun hHeld => ?_)
        clear hK K
        refine norm_ (a':=?_) ?_ ?_
        rotate_left
        ·
         show Act.put _ (some 26) _ = _
         simp only [Act.put,lA_,lB_,lC_,i64_w,i32_w]
         rfl
        refine one_ (i:=4) (N:=some 27) #[Y,Y,Y,Y,Y,Y,Z] rfl rfl (by kernel_rfl) (by decide) (fun K hK => ?_)
        refine goes_ Try.func46 (by kernel_rfl) rfl #[.agg #[.int .i64 t239,.slice Ao43 t240.length co43],.agg #[.string t243,.string t244]] (by rfl) rfl rfl (by (try simp only [zp1_,zp2_,zp3_]);first|done|rfl|(simp only [zp4_,zp5_];rfl)) ?_
        with_reducible refine (spec_AddField.calls k t239 _ _ t240 t243 t244 t245 t246 _ ?side1 ?side2 A21.out).mono ?_
        (case side1 => repeat (first|exact (Kd.R_reads' HO242.out).2.2|(with_reducible refine Kd.C_alloc ?_ _)|(with_reducible refine Kd.C_drewN ?_ _)|(with_reducible refine Kd.C_drew ?_)))
        (case side2 => exact (Kd.R_reads' HO242.out).2.1)
        rintro e w44 ⟨v247,rfl,ho0,hb⟩
        refine ⟨_,rfl,?_⟩
        have n0_:=zm0_ (zm8_ (by (with_reducible repeat (first|apply k1_|apply k2_|apply k3_));exact HO242.out) hb)
        have n1_:=zm0_ (Kd.V_lower (Kd.V_mono (ok':=fun k_ => some k_ ≠ (.slice Ao43 t240.length co43 : Value).ownBlock ∧ k_ ≠ gb235 ∧ k_ ≠ gb236 ∧ k_ ≠ gb249) ho0 (fun k_ hk_ => ⟨(Kd.fresh' (Kd.R_lt (by (with_reducible repeat (first|apply k1_|apply k2_|apply k3_));exact HO242.out)) k_ hk_),(Kd.freshB (g:=gb235) (o:=.cells #[.int .i64 a0_0,.slice A0_1 l0_1.length c0_1] 47 (0,0)) (by (with_reducible repeat (first|refine k6_ ?_ _|refine k7_ ?_|refine k5_ ?_ _));exact BK235.out) k_ hk_),(Kd.freshB (g:=gb236) (o:=.cells #[.string a1_0,.string a1_1] 69 (0,0)) (by (with_reducible repeat (first|refine k6_ ?_ _|refine k7_ ?_|refine k5_ ?_ _));exact BK236.out) k_ hk_),(Kd.freshB (g:=gb249) (o:=.cells #[.int .i64 0,.slice none 0 0] 26 (0,0)) (by (with_reducible repeat (first|refine k6_ ?_ _|refine k7_ ?_|refine k5_ ?_ _));exact BK249.out) k_ hk_)⟩)) (zn9_ (by repeat (first|(with_reducible first|exact HB.out|apply zm3_|apply zm2_|apply zm4_|refine zm1_ ?_ GE235.out|refine zm1_ ?_ GE236.out|refine zm1_ ?_ GE249.out)|exact HB.out))))
        have n2_:=zm0_ (zm5_ (by (with_reducible repeat (first|refine k6_ ?_ _|refine k7_ ?_|refine k5_ ?_ _));exact BK235.out) hb)
        have n3_:=zm0_ (zm5_ (by (with_reducible repeat (first|refine k6_ ?_ _|refine k7_ ?_|refine k5_ ?_ _));exact BK236.out) hb)
        have n4_:=zm0_ (zm5_ (by (with_reducible repeat (first|refine k6_ ?_ _|refine k7_ ?_|refine k5_ ?_ _));exact BK249.out) hb)
        have n5_:=zm0_ (zn8_ (by repeat (first|(with_reducible first|exact HB.out|apply zm3_|apply zm2_|apply zm4_|refine zm1_ ?_ GE235.out|refine zm1_ ?_ GE236.out|refine zm1_ ?_ GE249.out)|exact HB.out)) hb)
        clear HO242
        clear BK235
        clear BK236
        clear BK249
        clear HB
        have HO242:=n0_
        have HO248:=n1_
        have BK235:=n2_
        have BK236:=n3_
        have BK249:=n4_
        have HB:=n5_
        clear n0_ n1_ n2_ n3_ n4_ n5_
        (try clear hb)
        (try clear hb2)
        (try clear hk)
        (try clear hi)
        (try clear ho0)
        refine hK.out _ _ ⟨(zm6_ BK235.out 0).trans rfl,(zm6_ BK235.out 1).trans rfl,(zm6_ BK236.out 0).trans rfl,(zm6_ BK236.out 1).trans rfl⟩ (fun hHeld => ?_)
        clear hK K
        refine norm_ (a':=?_) ?_ ?_
        rotate_left
        ·
         show Act.put _ (some 27) _ = _
         simp only [Act.put,lA_,lB_,lC_,i64_w,i32_w]
         rfl
        exact norm_ (by simp only [putAll,Act.put,lA_,lB_,lC_]) (hCont (.slice Ao43 t240.length co43,v247,gb249) _ ⟨hHeld,(by (with_reducible repeat (first|apply k1_|apply k2_|apply k3_));exact HO242.out),(by (with_reducible repeat (first|apply zn5_|apply zn6_|apply zn7_));exact HO248.out),(by (with_reducible repeat (first|refine k6_ ?_ _|refine k7_ ?_|refine k5_ ?_ _));exact BK235.out),(by (with_reducible repeat (first|refine k6_ ?_ _|refine k7_ ?_|refine k5_ ?_ _));exact BK236.out),(by (with_reducible repeat (first|refine k6_ ?_ _|refine k7_ ?_|refine k5_ ?_ _));exact BK249.out),GW249.out,GE249.out,NB235_249.out,NB249_235.out,NB236_249.out,NB249_236.out,(by repeat (first|(with_reducible first|exact HB.out|apply zm3_|apply zm2_|apply zm4_|refine zm1_ ?_ GE235.out|refine zm1_ ?_ GE236.out|refine zm1_ ?_ GE249.out)|exact HB.out))⟩)
      ·
       skip
       refine box_step ?hg (N:=6) ?hd (cs:=#[.int .i64 0,.slice none 0 0]) (t:=26) ?hr ?_;(case hd => rfl);(case hg => rfl);(case hr => first|(go_simp;done)|(go_simp;rfl))
       intro gb249 hg w40 hbox hb
       have n0_:=zm0_ (zm5_ (by (with_reducible repeat (first|refine k6_ ?_ _|refine k7_ ?_|refine k5_ ?_ _));exact BK235.out) hb)
       have n1_:=zm0_ (zm5_ (by (with_reducible repeat (first|refine k6_ ?_ _|refine k7_ ?_|refine k5_ ?_ _));exact BK236.out) hb)
       have n2_:=zm0_ (zn8_ (by repeat (first|(with_reducible first|exact HB.out|apply zm3_|apply zm2_|apply zm4_|refine zm1_ ?_ GE235.out|refine zm1_ ?_ GE236.out)|exact HB.out)) hb)
       have n3_:=zm0_ (hbox)
       have n4_:=zm0_ ((by rw [hg];exact (zn9_ (by repeat (first|(with_reducible first|exact HB.out|apply zm3_|apply zm2_|apply zm4_|refine zm1_ ?_ GE235.out|refine zm1_ ?_ GE236.out)|exact HB.out))) : w.heap.size ≤ gb249))
       have n5_:=zm0_ ((by rw [hg];exact (zn9_ (by repeat (first|(with_reducible first|exact HB.out|apply zm3_|apply zm2_|apply zm4_|refine zm1_ ?_ GE235.out|refine zm1_ ?_ GE236.out)|exact HB.out))) : w.heap.size ≤ gb249))
       have n6_:=zm0_ ((by rw [hg];exact Nat.ne_of_lt (zo3_ (g:=gb235) (o:=.cells #[.int .i64 a0_0,.slice A0_1 l0_1.length c0_1] 47 (0,0)) (by (with_reducible repeat (first|refine k6_ ?_ _|refine k7_ ?_|refine k5_ ?_ _));exact BK235.out)) : gb235 ≠ gb249))
       have n7_:=zm0_ ((by rw [hg];exact Nat.ne_of_gt (zo3_ (g:=gb235) (o:=.cells #[.int .i64 a0_0,.slice A0_1 l0_1.length c0_1] 47 (0,0)) (by (with_reducible repeat (first|refine k6_ ?_ _|refine k7_ ?_|refine k5_ ?_ _));exact BK235.out)) : gb249 ≠ gb235))
       have n8_:=zm0_ ((by rw [hg];exact Nat.ne_of_lt (zo3_ (g:=gb236) (o:=.cells #[.string a1_0,.string a1_1] 69 (0,0)) (by (with_reducible repeat (first|refine k6_ ?_ _|refine k7_ ?_|refine k5_ ?_ _));exact BK236.out)) : gb236 ≠ gb249))
       have n9_:=zm0_ ((by rw [hg];exact Nat.ne_of_gt (zo3_ (g:=gb236) (o:=.cells #[.string a1_0,.string a1_1] 69 (0,0)) (by (with_reducible repeat (first|refine k6_ ?_ _|refine k7_ ?_|refine k5_ ?_ _));exact BK236.out)) : gb249 ≠ gb236))
       clear BK235
       clear BK236
       clear HB
       have BK235:=n0_
       have BK236:=n1_
       have HB:=n2_
       have BK249:=n3_
       have GW249:=n4_
       have GE249:=n5_
       have NB235_249:=n6_
       have NB249_235:=n7_
       have NB236_249:=n8_
       have NB249_236:=n9_
       clear n0_ n1_ n2_ n3_ n4_ n5_ n6_ n7_ n8_ n9_
       clear hb hbox hg
       refine hK.out _ _ ⟨(zm6_ BK235.out 0).trans rfl,(zm6_ BK235.out 1).trans rfl,(zm6_ BK236.out 0).trans rfl,(zm6_ BK236.out 1).trans rfl⟩ (fun hHeld => ?_)
       clear hK K
       refine norm_ (a':=?_) ?_ ?_
       rotate_left
       ·
        show Act.put _ (some 6) _ = _
        simp only [Act.put,lA_,lB_,lC_,i64_w,i32_w]
        rfl
       refine one_ (i:=1) (N:=some 24) #[Y,Y,Y,Z,Z,Y,Z] rfl rfl (by kernel_rfl) (by decide) (fun K hK => ?_)
       refine goes_ Try.func29 (by kernel_rfl) rfl #[.agg #[.int .i64 a0_0,.slice A0_1 l0_1.length c0_1]] (by rfl) rfl rfl (by (try simp only [zp1_,zp2_,zp3_]);first|done|rfl|(simp only [zp4_,zp5_];rfl)) ?_
       with_reducible refine (laws_toTable.calls k a0_0 _ _ l0_1 t239 t240 _ ?side1 ?side2 A19.out).mono ?_
       (case side1 => repeat (first|exact (Kd.C_below HR0_1.out HB.out)|(with_reducible refine Kd.C_alloc ?_ _)|(with_reducible refine Kd.C_drewN ?_ _)|(with_reducible refine Kd.C_drew ?_)))
       (case side2 => exact HC0_1.out)
       rintro e w41 ⟨v241,rfl,ho0,hb⟩
       refine ⟨_,rfl,?_⟩
       have n0_:=zm0_ (zo1_ ho0 (zn9_ (by repeat (first|(with_reducible first|exact HB.out|apply zm3_|apply zm2_|apply zm4_|refine zm1_ ?_ GE235.out|refine zm1_ ?_ GE236.out|refine zm1_ ?_ GE249.out)|exact HB.out))))
       have n1_:=zm0_ (zm5_ (by (with_reducible repeat (first|refine k6_ ?_ _|refine k7_ ?_|refine k5_ ?_ _));exact BK235.out) hb)
       have n2_:=zm0_ (zm5_ (by (with_reducible repeat (first|refine k6_ ?_ _|refine k7_ ?_|refine k5_ ?_ _));exact BK236.out) hb)
       have n3_:=zm0_ (zm5_ (by (with_reducible repeat (first|refine k6_ ?_ _|refine k7_ ?_|refine k5_ ?_ _));exact BK249.out) hb)
       have n4_:=zm0_ (zn8_ (by repeat (first|(with_reducible first|exact HB.out|apply zm3_|apply zm2_|apply zm4_|refine zm1_ ?_ GE235.out|refine zm1_ ?_ GE236.out|refine zm1_ ?_ GE249.out)|exact HB.out)) hb)
       clear BK235
       clear BK236
       clear BK249
       clear HB
       have HO242:=n0_
       have BK235:=n1_
       have BK236:=n2_
       have BK249:=n3_
       have HB:=n4_
       clear n0_ n1_ n2_ n3_ n4_
       (try clear hb)
       (try clear hb2)
       (try clear hk)
       (try clear hi)
       (try clear ho0)
       refine hK.out _ _ ⟨(zm6_ BK235.out 0).trans rfl,(zm6_ BK235.out 1).trans rfl,(zm6_ BK236.out 0).trans rfl,(zm6_ BK236.out 1).trans rfl⟩ (fun hHeld => ?_)
       clear hK K
       refine norm_ (a':=?_) ?_ ?_
       rotate_left
       ·
        show Act.put _ (some 24) _ = _
        simp only [Act.put,lA_,lB_,lC_,i64_w,i32_w]
        rfl
       refine one_ (i:=3) (N:=some 26) #[Y,Y,Y,Y,Z,Y,Z] rfl rfl (by kernel_rfl) (by decide) (fun K hK => ?_)
       refine goes_ Try.func47 (by kernel_rfl) rfl #[.agg #[.string a1_0,.string a1_1]] (by rfl) rfl rfl (by (try simp only [zp1_,zp2_,zp3_]);first|done|rfl|(simp only [zp4_,zp5_];rfl)) ?_
       with_reducible refine (laws_toField.calls a1_0 a1_1 t243 t244 _ A20.out).mono ?_
       rintro e w42 ⟨rfl,hb⟩
       refine ⟨_,rfl,?_⟩
       have n0_:=zm0_ (zm8_ (by (with_reducible repeat (first|apply k1_|apply k2_|apply k3_));exact HO242.out) hb)
       have n1_:=zm0_ (zm5_ (by (with_reducible repeat (first|refine k6_ ?_ _|refine k7_ ?_|refine k5_ ?_ _));exact BK235.out) hb)
       have n2_:=zm0_ (zm5_ (by (with_reducible repeat (first|refine k6_ ?_ _|refine k7_ ?_|refine k5_ ?_ _));exact BK236.out) hb)
       have n3_:=zm0_ (zm5_ (by (with_reducible repeat (first|refine k6_ ?_ _|refine k7_ ?_|refine k5_ ?_ _));exact BK249.out) hb)
       have n4_:=zm0_ (zn8_ (by repeat (first|(with_reducible first|exact HB.out|apply zm3_|apply zm2_|apply zm4_|refine zm1_ ?_ GE235.out|refine zm1_ ?_ GE236.out|refine zm1_ ?_ GE249.out)|exact HB.out)) hb)
       clear HO242
       clear BK235
       clear BK236
       clear BK249
       clear HB
       have HO242:=n0_
       have BK235:=n1_
       have BK236:=n2_
       have BK249:=n3_
       have HB:=n4_
       clear n0_ n1_ n2_ n3_ n4_
       (try clear hb)
       (try clear hb2)
       (try clear hk)
       (try clear hi)
       obtain ⟨Ao43,co43,eo43⟩:=Kd.R_slice HO242.out
       (first|subst eo43|(injection eo43 with f1_ f2_ f3_;have f4_:=f1_.symm;have f5_:=f3_.symm;clear f1_ f2_ f3_;subst f4_;subst f5_))
       refine hK.out _ _ ⟨(zm6_ BK235.out 0).trans rfl,(zm6_ BK235.out 1).trans rfl,(zm6_ BK236.out 0).trans rfl,(zm6_ BK236.out 1).trans rfl⟩ (fun hHeld => ?_)
       clear hK K
       refine norm_ (a':=?_) ?_ ?_
       rotate_left
       ·
        show Act.put _ (some 26) _ = _
        simp only [Act.put,lA_,lB_,lC_,i64_w,i32_w]
        rfl
       refine one_ (i:=4) (N:=some 27) #[Y,Y,Y,Y,Y,Y,Z] rfl rfl (by kernel_rfl) (by decide) (fun K hK => ?_)
       refine goes_ Try.func46 (by kernel_rfl) rfl #[.agg #[.int .i64 t239,.slice Ao43 t240.length co43],.agg #[.string t243,.string t244]] (by rfl) rfl rfl (by (try simp only [zp1_,zp2_,zp3_]);first|done|rfl|(simp only [zp4_,zp5_];rfl)) ?_
       with_reducible refine (spec_AddField.calls k t239 _ _ t240 t243 t244 t245 t246 _ ?side1 ?side2 A21.out).mono ?_
       (case side1 => repeat (first|exact (Kd.R_reads' HO242.out).2.2|(with_reducible refine Kd.C_alloc ?_ _)|(with_reducible refine Kd.C_drewN ?_ _)|(with_reducible refine Kd.C_drew ?_)))
       (case side2 => exact (Kd.R_reads' HO242.out).2.1)
       rintro e w44 ⟨v247,rfl,ho0,hb⟩
       refine ⟨_,rfl,?_⟩
       have n0_:=zm0_ (zm8_ (by (with_reducible repeat (first|apply k1_|apply k2_|apply k3_));exact HO242.out) hb)
       have n1_:=zm0_ (Kd.V_lower (Kd.V_mono (ok':=fun k_ => some k_ ≠ (.slice Ao43 t240.length co43 : Value).ownBlock ∧ k_ ≠ gb235 ∧ k_ ≠ gb236 ∧ k_ ≠ gb249) ho0 (fun k_ hk_ => ⟨(Kd.fresh' (Kd.R_lt (by (with_reducible repeat (first|apply k1_|apply k2_|apply k3_));exact HO242.out)) k_ hk_),(Kd.freshB (g:=gb235) (o:=.cells #[.int .i64 a0_0,.slice A0_1 l0_1.length c0_1] 47 (0,0)) (by (with_reducible repeat (first|refine k6_ ?_ _|refine k7_ ?_|refine k5_ ?_ _));exact BK235.out) k_ hk_),(Kd.freshB (g:=gb236) (o:=.cells #[.string a1_0,.string a1_1] 69 (0,0)) (by (with_reducible repeat (first|refine k6_ ?_ _|refine k7_ ?_|refine k5_ ?_ _));exact BK236.out) k_ hk_),(Kd.freshB (g:=gb249) (o:=.cells #[.int .i64 0,.slice none 0 0] 26 (0,0)) (by (with_reducible repeat (first|refine k6_ ?_ _|refine k7_ ?_|refine k5_ ?_ _));exact BK249.out) k_ hk_)⟩)) (zn9_ (by repeat (first|(with_reducible first|exact HB.out|apply zm3_|apply zm2_|apply zm4_|refine zm1_ ?_ GE235.out|refine zm1_ ?_ GE236.out|refine zm1_ ?_ GE249.out)|exact HB.out))))
       have n2_:=zm0_ (zm5_ (by (with_reducible repeat (first|refine k6_ ?_ _|refine k7_ ?_|refine k5_ ?_ _));exact BK235.out) hb)
       have n3_:=zm0_ (zm5_ (by (with_reducible repeat (first|refine k6_ ?_ _|refine k7_ ?_|refine k5_ ?_ _));exact BK236.out) hb)
       have n4_:=zm0_ (zm5_ (by (with_reducible repeat (first|refine k6_ ?_ _|refine k7_ ?_|refine k5_ ?_ _));exact BK249.out) hb)
       have n5_:=zm0_ (zn8_ (by repeat (first|(with_reducible first|exact HB.out|apply zm3_|apply zm2_|apply zm4_|refine zm1_ ?_ GE235.out|refine zm1_ ?_ GE236.out|refine zm1_ ?_ GE249.out)|exact HB.out)) hb)
       clear HO242
       clear BK235
       clear BK236
       clear BK249
       clear HB
       have HO242:=n0_
       have HO248:=n1_
       have BK235:=n2_
       have BK236:=n3_
       have BK249:=n4_
       have HB:=n5_
       clear n0_ n1_ n2_ n3_ n4_ n5_
       (try clear hb)
       (try clear hb2)
       (try clear hk)
       (try clear hi)
       (try clear ho0)
       refine hK.out _ _ ⟨(zm6_ BK235.out 0).trans rfl,(zm6_ BK235.out 1).trans rfl,(zm6_ BK236.out 0).trans rfl,(zm6_ BK236.out 1).trans rfl⟩ (fun hHeld => ?_)
       clear hK K
       refine norm_ (a':=?_) ?_ ?_
       rotate_left
       ·
        show Act.put _ (some 27) _ = _
        simp only [Act.put,lA_,lB_,lC_,i64_w,i32_w]
        rfl
       exact norm_ (by simp only [putAll,Act.put,lA_,lB_,lC_]) (hCont (.slice Ao43 t240.length co43,v247,gb249) _ ⟨hHeld,(by (with_reducible repeat (first|apply k1_|apply k2_|apply k3_));exact HO242.out),(by (with_reducible repeat (first|apply zn5_|apply zn6_|apply zn7_));exact HO248.out),(by (with_reducible repeat (first|refine k6_ ?_ _|refine k7_ ?_|refine k5_ ?_ _));exact BK235.out),(by (with_reducible repeat (first|refine k6_ ?_ _|refine k7_ ?_|refine k5_ ?_ _));exact BK236.out),(by (with_reducible repeat (first|refine k6_ ?_ _|refine k7_ ?_|refine k5_ ?_ _));exact BK249.out),GW249.out,GE249.out,NB235_249.out,NB249_235.out,NB236_249.out,NB249_236.out,(by repeat (first|(with_reducible first|exact HB.out|apply zm3_|apply zm2_|apply zm4_|refine zm1_ ?_ GE235.out|refine zm1_ ?_ GE236.out|refine zm1_ ?_ GE249.out)|exact HB.out))⟩)
     rintro ⟨v241,v247,gb249⟩ w45 ⟨hS_,h0_,h1_,h2_,h3_,h4_,h5_,h6_,h7_,h8_,h9_,h10_,h11_⟩
     have n0_ : Aside0 (Kd.R k33 33 w45 w.heap.size (fun _ => True) v241 t240):=⟨h0_⟩
     have n1_ : Aside0 (Kd.V k33 33 w45 w.heap.size (fun k_ => some k_ ≠ (v241 : Value).ownBlock ∧ k_ ≠ gb235 ∧ k_ ≠ gb236 ∧ k_ ≠ gb249) v247 t246):=⟨h1_⟩
     have n2_ : Aside0 (w45.heap[gb235]? = some (.cells #[.int .i64 a0_0,.slice A0_1 l0_1.length c0_1] 47 (0,0))):=⟨h2_⟩
     have n3_ : Aside0 (w45.heap[gb236]? = some (.cells #[.string a1_0,.string a1_1] 69 (0,0))):=⟨h3_⟩
     have n4_ : Aside0 (w45.heap[gb249]? = some (.cells #[.int .i64 0,.slice none 0 0] 26 (0,0))):=⟨h4_⟩
     have n5_ : Aside0 (w.heap.size ≤ gb249):=⟨h5_⟩
     have n6_ : Aside0 (w.heap.size ≤ gb249):=⟨h6_⟩
     have n7_ : Aside0 (gb235 ≠ gb249):=⟨h7_⟩
     have n8_ : Aside0 (gb249 ≠ gb235):=⟨h8_⟩
     have n9_ : Aside0 (gb236 ≠ gb249):=⟨h9_⟩
     have n10_ : Aside0 (gb249 ≠ gb236):=⟨h10_⟩
     have n11_ : Aside0 (Below w.heap.size w w45):=⟨h11_⟩
     clear BK235
     clear BK236
     clear HB
     clear h0_ h1_ h2_ h3_ h4_ h5_ h6_ h7_ h8_ h9_ h10_ h11_
     have HO242:=n0_
     have HO248:=n1_
     have BK235:=n2_
     have BK236:=n3_
     have BK249:=n4_
     have GW249:=n5_
     have GE249:=n6_
     have NB235_249:=n7_
     have NB249_235:=n8_
     have NB236_249:=n9_
     have NB249_236:=n10_
     have HB:=n11_
     clear n0_ n1_ n2_ n3_ n4_ n5_ n6_ n7_ n8_ n9_ n10_ n11_
     have hHeld : w45.cell? ⟨gb235,0,none⟩ = some (.int .i64 a0_0) ∧ w45.cell? ⟨gb235,1,none⟩ = some (.slice A0_1 l0_1.length c0_1) ∧ w45.cell? ⟨gb236,0,none⟩ = some (.string a1_0) ∧ w45.cell? ⟨gb236,1,none⟩ = some (.string a1_1):=hS_
     obtain ⟨Ao47,co47,eo47⟩:=Kd.V_slice HO248.out
     (first|subst eo47|(injection eo47 with f1_ f2_ f3_;have f4_:=f1_.symm;have f5_:=f3_.symm;clear f1_ f2_ f3_;subst f4_;subst f5_))
     refine norm_ (a':=?_) ?_ ?_
     rotate_left
     ·
      simp only [putAll,Act.put,lA_,lB_,lC_]
      rfl
     refine one_ (i:=6) (N:=none) #[Y,Y,Y,Y,Y,Y,Y] rfl rfl (by kernel_rfl) (by decide) (fun K hK => ?_)
     have hs46 : w45.cell? ⟨gb249,0,none⟩ = some (.int .i64 0):=(zm6_ BK249.out 0).trans rfl
     have hfs46:=zm7_ BK249.out 0
     have hns46_0:=NB235_249.out
     have hns46_1:=NB236_249.out
     have hms46_0:=NB249_235.out
     have hms46_1:=NB249_236.out
     have hs48 : w45.cell? ⟨gb249,1,none⟩ = some (.slice none 0 0):=(zm6_ BK249.out 1).trans rfl
     have hfs48:=zm7_ BK249.out 1
     have hns48_0:=NB235_249.out
     have hns48_1:=NB236_249.out
     have hms48_0:=NB249_235.out
     have hms48_1:=NB249_236.out
     refine skip_ (w1:=?_) (by rfl) rfl ?_ ?_
     rotate_left
     ·
      go_simp
      rfl
     refine hK.out _ _ ⟨((cell_far (p:=⟨gb249,_,none⟩) NB235_249.out _).trans (((cell_far (p:=⟨gb249,_,none⟩) NB235_249.out _).trans (hHeld.1)))),((cell_far (p:=⟨gb249,_,none⟩) NB235_249.out _).trans (((cell_far (p:=⟨gb249,_,none⟩) NB235_249.out _).trans (hHeld.2.1)))),((cell_far (p:=⟨gb249,_,none⟩) NB236_249.out _).trans (((cell_far (p:=⟨gb249,_,none⟩) NB236_249.out _).trans (hHeld.2.2.1)))),((cell_far (p:=⟨gb249,_,none⟩) NB236_249.out _).trans (((cell_far (p:=⟨gb249,_,none⟩) NB236_249.out _).trans (hHeld.2.2.2))))⟩ (fun hHeld => ?_)
     clear hK K
     refine done_ (by kernel_rfl) ?_
     have hnb49:=NB235_249.out
     have hnc49:=NB249_235.out
     have hcz50_0 : w45.cell? ⟨gb235,0,none⟩ = some (.int .i64 a0_0):=(zm6_ BK235.out 0).trans rfl
     have hcz50_1 : w45.cell? ⟨gb235,1,none⟩ = some (.slice A0_1 l0_1.length c0_1):=(zm6_ BK235.out 1).trans rfl
     have hfz50_0:=zm7_ BK235.out 0
     have hfz50_1:=zm7_ BK235.out 1
     try go_wp2_with (first|((with_reducible refine gate_callee (f:=29) rfl ?_);refine goesL_ (some 29) rfl rfl Try.func29 (by kernel_rfl) rfl #[.agg #[.int .i64 a0_0,.slice A0_1 l0_1.length c0_1]] rfl (by (try simp only [zp1_,zp2_,zp3_]);first|done|rfl|(simp only [zp4_,zp5_];rfl)) ?_;(with_reducible refine (laws_toTable.calls k a0_0 _ _ l0_1 t250 t251 _ ?side1 ?side2 A22.out).mono ?_);(case side1 => exact Kd.C_below HR0_1.out (by repeat (first|(with_reducible first|exact HB.out|apply zm3_|apply zm2_|apply zm4_|refine zm1_ ?_ GE235.out|refine zm1_ ?_ GE236.out|refine zm1_ ?_ GE249.out)|exact HB.out)));(case side2 => exact HC0_1.out);rintro e w51 ⟨v252,rfl,ho0,hb⟩;refine ⟨_,rfl,?_⟩;have n0_:=zm0_ (Kd.R_elder' (by (with_reducible repeat (first|apply k1_|apply k2_|apply k3_));exact (zo2_ (k4_ (p:=⟨gb249,1,none⟩) (k4_ (p:=⟨gb249,0,none⟩) (Kd.R_types HO242.out BK249.out (by decide)) (fun _ hk => hk.2) (.int .i64 t245)) (fun _ hk => hk.2) (.slice Ao47 t246.length co47)) (fun _ h_ => h_.1))) (Kd.R_base ho0) hb);have n1_:=zm0_ (Kd.V_elder' (by (with_reducible repeat (first|apply zn5_|apply zn6_|apply zn7_));exact (Kd.V_mono (Kd.V_far (p:=⟨gb249,1,none⟩) (Kd.V_far (p:=⟨gb249,0,none⟩) (Kd.V_mono HO248.out (fun k_ hk => (⟨hk,(by first|exact hk.2.2.2|(have hq_:=hk;simp only [ne_eq] at hq_ ⊢;simp only [hq_,k8_,and_self]))⟩ : _ ∧ k_ ≠ gb249))) (fun _ hk => hk.2) (.int .i64 t245)) (fun _ hk => hk.2) (.slice Ao47 t246.length co47)) (fun _ h_ => h_.1))) (Kd.R_base ho0) hb);have n2_:=zm0_ (zo1_ (Kd.R_new' ho0 (Kd.R_lt (by (with_reducible repeat (first|apply k1_|apply k2_|apply k3_));exact (zo2_ (k4_ (p:=⟨gb249,1,none⟩) (k4_ (p:=⟨gb249,0,none⟩) (Kd.R_types HO242.out BK249.out (by decide)) (fun _ hk => hk.2) (.int .i64 t245)) (fun _ hk => hk.2) (.slice Ao47 t246.length co47)) (fun _ h_ => h_.1))))) (zn9_ (by repeat (first|(with_reducible first|exact HB.out|apply zm3_|apply zm2_|apply zm4_|refine zm1_ ?_ GE235.out|refine zm1_ ?_ GE236.out|refine zm1_ ?_ GE249.out)|exact HB.out))));have n3_:=zm0_ (zm5_ (g:=gb235) (o:=.cells #[.int .i64 a0_0,.slice A0_1 l0_1.length c0_1] 47 (0,0)) (by (with_reducible repeat (first|refine k6_ ?_ _|refine k7_ ?_|refine k5_ ?_ _));refine blk_far ?_ NB235_249.out _;(with_reducible repeat (first|refine k6_ ?_ _|refine k7_ ?_|refine k5_ ?_ _));refine blk_far ?_ NB235_249.out _;(with_reducible repeat (first|refine k6_ ?_ _|refine k7_ ?_|refine k5_ ?_ _));exact BK235.out) hb);have n4_:=zm0_ (zm5_ (g:=gb236) (o:=.cells #[.string a1_0,.string a1_1] 69 (0,0)) (by (with_reducible repeat (first|refine k6_ ?_ _|refine k7_ ?_|refine k5_ ?_ _));refine blk_far ?_ NB236_249.out _;(with_reducible repeat (first|refine k6_ ?_ _|refine k7_ ?_|refine k5_ ?_ _));refine blk_far ?_ NB236_249.out _;(with_reducible repeat (first|refine k6_ ?_ _|refine k7_ ?_|refine k5_ ?_ _));exact BK236.out) hb);have n5_:=zm0_ (zm5_ (g:=gb249) (o:=.cells #[.int .i64 t245,.slice Ao47 t246.length co47] 26 (0,0)) (by (with_reducible repeat (first|refine k6_ ?_ _|refine k7_ ?_|refine k5_ ?_ _));refine blk_put (cs:=#[.int .i64 t245,.slice none 0 0]) ?_ 1 _ rfl;(with_reducible repeat (first|refine k6_ ?_ _|refine k7_ ?_|refine k5_ ?_ _));refine blk_put (cs:=#[.int .i64 0,.slice none 0 0]) ?_ 0 _ rfl;(with_reducible repeat (first|refine k6_ ?_ _|refine k7_ ?_|refine k5_ ?_ _));exact BK249.out) hb);have n6_:=zm0_ (zn8_ (by repeat (first|(with_reducible first|exact HB.out|apply zm3_|apply zm2_|apply zm4_|refine zm1_ ?_ GE235.out|refine zm1_ ?_ GE236.out|refine zm1_ ?_ GE249.out)|exact HB.out)) hb);clear HO242;clear HO248;clear BK235;clear BK236;clear BK249;clear HB;have HO242:=n0_;have HO248:=n1_;have HO253:=n2_;have BK235:=n3_;have BK236:=n4_;have BK249:=n5_;have HB:=n6_;clear n0_ n1_ n2_ n3_ n4_ n5_ n6_;(try clear hb);(try clear hb2);(try clear hk);(try clear hi);(try clear ho0))|((with_reducible refine gate_dst (N:=7) rfl ?_);refine box_event ?hg (N:=7) ?hd (cs:=#[.int .i64 0,.slice none 0 0]) (t:=26) ?hr ?_;(case hd => rfl);(case hg => rfl);(case hr => first|(go_simp;done)|(go_simp;rfl));intro gb254 hg w52 hbox hb;have n0_:=zm0_ (zm8_ (by (with_reducible repeat (first|apply k1_|apply k2_|apply k3_));exact HO242.out) hb);have n1_:=zm0_ (zm9_ (Kd.V_elderB (by (with_reducible repeat (first|apply zn5_|apply zn6_|apply zn7_));exact HO248.out) gb254 (Nat.le_of_eq hg.symm)) hb);have n2_:=zm0_ (zm8_ (by (with_reducible repeat (first|apply k1_|apply k2_|apply k3_));exact HO253.out) hb);have n3_:=zm0_ (zm5_ (by (with_reducible repeat (first|refine k6_ ?_ _|refine k7_ ?_|refine k5_ ?_ _));exact BK235.out) hb);have n4_:=zm0_ (zm5_ (by (with_reducible repeat (first|refine k6_ ?_ _|refine k7_ ?_|refine k5_ ?_ _));exact BK236.out) hb);have n5_:=zm0_ (zm5_ (by (with_reducible repeat (first|refine k6_ ?_ _|refine k7_ ?_|refine k5_ ?_ _));exact BK249.out) hb);have n6_:=zm0_ (zn8_ (by repeat (first|(with_reducible first|exact HB.out|apply zm3_|apply zm2_|apply zm4_|refine zm1_ ?_ GE235.out|refine zm1_ ?_ GE236.out|refine zm1_ ?_ GE249.out)|exact HB.out)) hb);have n7_:=zm0_ (hbox);have n8_:=zm0_ ((by rw [hg];exact (zn9_ (by repeat (first|(with_reducible first|exact HB.out|apply zm3_|apply zm2_|apply zm4_|refine zm1_ ?_ GE235.out|refine zm1_ ?_ GE236.out|refine zm1_ ?_ GE249.out)|exact HB.out))) : w.heap.size ≤ gb254));have n9_:=zm0_ ((by rw [hg];exact (zn9_ (by repeat (first|(with_reducible first|exact HB.out|apply zm3_|apply zm2_|apply zm4_|refine zm1_ ?_ GE235.out|refine zm1_ ?_ GE236.out|refine zm1_ ?_ GE249.out)|exact HB.out))) : w.heap.size ≤ gb254));have n10_:=zm0_ ((by rw [hg];exact Nat.ne_of_lt (zo3_ (g:=gb235) (o:=.cells #[.int .i64 a0_0,.slice A0_1 l0_1.length c0_1] 47 (0,0)) (by (with_reducible repeat (first|refine k6_ ?_ _|refine k7_ ?_|refine k5_ ?_ _));exact BK235.out)) : gb235 ≠ gb254));have n11_:=zm0_ ((by rw [hg];exact Nat.ne_of_gt (zo3_ (g:=gb235) (o:=.cells #[.int .i64 a0_0,.slice A0_1 l0_1.length c0_1] 47 (0,0)) (by (with_reducible repeat (first|refine k6_ ?_ _|refine k7_ ?_|refine k5_ ?_ _));exact BK235.out)) : gb254 ≠ gb235));have n12_:=zm0_ ((by rw [hg];exact Nat.ne_of_lt (zo3_ (g:=gb236) (o:=.cells #[.string a1_0,.string a1_1] 69 (0,0)) (by (with_reducible repeat (first|refine k6_ ?_ _|refine k7_ ?_|refine k5_ ?_ _));exact BK236.out)) : gb236 ≠ gb254));have n13_:=zm0_ ((by rw [hg];exact Nat.ne_of_gt (zo3_ (g:=gb236) (o:=.cells #[.string a1_0,.string a1_1] 69 (0,0)) (by (with_reducible repeat (first|refine k6_ ?_ _|refine k7_ ?_|refine k5_ ?_ _));exact BK236.out)) : gb254 ≠ gb236));have n14_:=zm0_ ((by rw [hg];exact Nat.ne_of_lt (zo3_ (g:=gb249) (o:=.cells #[.int .i64 t245,.slice Ao47 t246.length co47] 26 (0,0)) (by (with_reducible repeat (first|refine k6_ ?_ _|refine k7_ ?_|refine k5_ ?_ _));exact BK249.out)) : gb249 ≠ gb254));have n15_:=zm0_ ((by rw [hg];exact Nat.ne_of_gt (zo3_ (g:=gb249) (o:=.cells #[.int .i64 t245,.slice Ao47 t246.length co47] 26 (0,0)) (by (with_reducible repeat (first|refine k6_ ?_ _|refine k7_ ?_|refine k5_ ?_ _));exact BK249.out)) : gb254 ≠ gb249));clear HO242;clear HO248;clear HO253;clear BK235;clear BK236;clear BK249;clear HB;have HO242:=n0_;have HO248:=n1_;have HO253:=n2_;have BK235:=n3_;have BK236:=n4_;have BK249:=n5_;have HB:=n6_;have BK254:=n7_;have GW254:=n8_;have GE254:=n9_;have NB235_254:=n10_;have NB254_235:=n11_;have NB236_254:=n12_;have NB254_236:=n13_;have NB249_254:=n14_;have NB254_249:=n15_;clear n0_ n1_ n2_ n3_ n4_ n5_ n6_ n7_ n8_ n9_ n10_ n11_ n12_ n13_ n14_ n15_;clear hb hbox hg;have hnb53:=NB254_235.out;have hnc53:=NB235_254.out;have hnb54:=NB254_236.out;have hnc54:=NB236_254.out;have hnb55:=NB254_249.out;have hnc55:=NB249_254.out;have hcz56_0 : w52.cell? ⟨gb254,0,none⟩ = some (.int .i64 0):=(zm6_ BK254.out 0).trans rfl;have hcz56_1 : w52.cell? ⟨gb254,1,none⟩ = some (.slice none 0 0):=(zm6_ BK254.out 1).trans rfl;have hfz56_0:=zm7_ BK254.out 0;have hfz56_1:=zm7_ BK254.out 1;obtain ⟨Ao57,co57,eo57⟩:=Kd.R_slice HO253.out;subst eo57))
     have n0_ : Aside0 (Kd.R k33 33 ((w52.setCell ⟨gb254,0,none⟩ (.int .i64 t250)).setCell ⟨gb254,1,none⟩ (.slice Ao57 t251.length co57)) w.heap.size (fun k_ => some k_ ≠ (.slice Ao57 t251.length co57 : Value).ownBlock) v241 t240):=⟨by (with_reducible repeat (first|apply k1_|apply k2_|apply k3_));exact zo2_ (k4_ (p:=⟨gb254,1,none⟩) (k4_ (p:=⟨gb254,0,none⟩) (Kd.R_types HO242.out BK254.out (by decide)) (fun _ hk => hk.2) (.int .i64 t250)) (fun _ hk => hk.2) (.slice Ao57 t251.length co57)) (fun _ hk => (by first|exact hk.1.2|(have hq_:=hk;simp only [ne_eq] at hq_ ⊢;simp only [hq_,k8_,and_self])))⟩
     have n1_ : Aside0 (Kd.V k33 33 ((w52.setCell ⟨gb254,0,none⟩ (.int .i64 t250)).setCell ⟨gb254,1,none⟩ (.slice Ao57 t251.length co57)) w.heap.size (fun k_ => some k_ ≠ (v241 : Value).ownBlock ∧ some k_ ≠ (.slice Ao57 t251.length co57 : Value).ownBlock ∧ k_ ≠ gb235 ∧ k_ ≠ gb236 ∧ k_ ≠ gb249 ∧ k_ ≠ gb254) (.slice Ao47 t246.length co47) t246):=⟨by (with_reducible repeat (first|apply zn5_|apply zn6_|apply zn7_));exact Kd.V_mono (Kd.V_far (p:=⟨gb254,1,none⟩) (Kd.V_far (p:=⟨gb254,0,none⟩) (Kd.V_mono HO248.out (fun k_ hk => (⟨hk,(by first|exact hk.2|(have hq_:=hk;simp only [ne_eq] at hq_ ⊢;simp only [hq_,k8_,and_self]))⟩ : _ ∧ k_ ≠ gb254))) (fun _ hk => hk.2) (.int .i64 t250)) (fun _ hk => hk.2) (.slice Ao57 t251.length co57)) (fun _ hk => ⟨(by first|exact hk.1.1.1.1|(have hq_:=hk;simp only [ne_eq] at hq_ ⊢;simp only [hq_,k8_,and_self])),⟨(by first|exact hk.1.1.2|(have hq_:=hk;simp only [ne_eq] at hq_ ⊢;simp only [hq_,k8_,and_self])),⟨(by first|exact hk.1.1.1.2.1|(have hq_:=hk;simp only [ne_eq] at hq_ ⊢;simp only [hq_,k8_,and_self])),⟨(by first|exact hk.1.1.1.2.2.1|(have hq_:=hk;simp only [ne_eq] at hq_ ⊢;simp only [hq_,k8_,and_self])),⟨(by first|exact hk.1.1.1.2.2.2|(have hq_:=hk;simp only [ne_eq] at hq_ ⊢;simp only [hq_,k8_,and_self])),(by first|exact hk.1.2|(have hq_:=hk;simp only [ne_eq] at hq_ ⊢;simp only [hq_,k8_,and_self]))⟩⟩⟩⟩⟩)⟩
     have n2_ : Aside0 (Kd.R k33 33 ((w52.setCell ⟨gb254,0,none⟩ (.int .i64 t250)).setCell ⟨gb254,1,none⟩ (.slice Ao57 t251.length co57)) w.heap.size (fun k_ => some k_ ≠ (v241 : Value).ownBlock) (.slice Ao57 t251.length co57) t251):=⟨by (with_reducible repeat (first|apply k1_|apply k2_|apply k3_));exact zo2_ (k4_ (p:=⟨gb254,1,none⟩) (k4_ (p:=⟨gb254,0,none⟩) (Kd.R_types HO253.out BK254.out (by decide)) (fun _ hk => hk.2) (.int .i64 t250)) (fun _ hk => hk.2) (.slice Ao57 t251.length co57)) (fun _ hk => (by first|exact hk.1.2|(have hq_:=hk;simp only [ne_eq] at hq_ ⊢;simp only [hq_,k8_,and_self])))⟩
     have n3_ : Aside0 (((w52.setCell ⟨gb254,0,none⟩ (.int .i64 t250)).setCell ⟨gb254,1,none⟩ (.slice Ao57 t251.length co57)).heap[gb235]? = some (.cells #[.int .i64 a0_0,.slice A0_1 l0_1.length c0_1] 47 (0,0))):=⟨by (with_reducible repeat (first|refine k6_ ?_ _|refine k7_ ?_|refine k5_ ?_ _));refine blk_far ?_ NB235_254.out _;(with_reducible repeat (first|refine k6_ ?_ _|refine k7_ ?_|refine k5_ ?_ _));refine blk_far ?_ NB235_254.out _;(with_reducible repeat (first|refine k6_ ?_ _|refine k7_ ?_|refine k5_ ?_ _));exact BK235.out⟩
     have n4_ : Aside0 (((w52.setCell ⟨gb254,0,none⟩ (.int .i64 t250)).setCell ⟨gb254,1,none⟩ (.slice Ao57 t251.length co57)).heap[gb236]? = some (.cells #[.string a1_0,.string a1_1] 69 (0,0))):=⟨by (with_reducible repeat (first|refine k6_ ?_ _|refine k7_ ?_|refine k5_ ?_ _));refine blk_far ?_ NB236_254.out _;(with_reducible repeat (first|refine k6_ ?_ _|refine k7_ ?_|refine k5_ ?_ _));refine blk_far ?_ NB236_254.out _;(with_reducible repeat (first|refine k6_ ?_ _|refine k7_ ?_|refine k5_ ?_ _));exact BK236.out⟩
     have n5_ : Aside0 (((w52.setCell ⟨gb254,0,none⟩ (.int .i64 t250)).setCell ⟨gb254,1,none⟩ (.slice Ao57 t251.length co57)).heap[gb249]? = some (.cells #[.int .i64 t245,.slice Ao47 t246.length co47] 26 (0,0))):=⟨by (with_reducible repeat (first|refine k6_ ?_ _|refine k7_ ?_|refine k5_ ?_ _));refine blk_far ?_ NB249_254.out _;(with_reducible repeat (first|refine k6_ ?_ _|refine k7_ ?_|refine k5_ ?_ _));refine blk_far ?_ NB249_254.out _;(with_reducible repeat (first|refine k6_ ?_ _|refine k7_ ?_|refine k5_ ?_ _));exact BK249.out⟩
     have n6_ : Aside0 (((w52.setCell ⟨gb254,0,none⟩ (.int .i64 t250)).setCell ⟨gb254,1,none⟩ (.slice Ao57 t251.length co57)).heap[gb254]? = some (.cells #[.int .i64 t250,.slice Ao57 t251.length co57] 26 (0,0))):=⟨by (with_reducible repeat (first|refine k6_ ?_ _|refine k7_ ?_|refine k5_ ?_ _));refine blk_put (cs:=#[.int .i64 t250,.slice none 0 0]) ?_ 1 _ rfl;(with_reducible repeat (first|refine k6_ ?_ _|refine k7_ ?_|refine k5_ ?_ _));refine blk_put (cs:=#[.int .i64 0,.slice none 0 0]) ?_ 0 _ rfl;(with_reducible repeat (first|refine k6_ ?_ _|refine k7_ ?_|refine k5_ ?_ _));exact BK254.out⟩
     have n7_ : Aside0 (Below w.heap.size w ((w52.setCell ⟨gb254,0,none⟩ (.int .i64 t250)).setCell ⟨gb254,1,none⟩ (.slice Ao57 t251.length co57))):=⟨by repeat (first|(with_reducible first|exact HB.out|apply zm3_|apply zm2_|apply zm4_|refine zm1_ ?_ GE235.out|refine zm1_ ?_ GE236.out|refine zm1_ ?_ GE249.out|refine zm1_ ?_ GE254.out)|exact HB.out)⟩
     (try clear HO242)
     (try clear HO248)
     (try clear HO253)
     (try clear BK235)
     (try clear BK236)
     (try clear BK249)
     (try clear BK254)
     (try clear HB)
     generalize ((w52.setCell ⟨gb254,0,none⟩ (.int .i64 t250)).setCell ⟨gb254,1,none⟩ (.slice Ao57 t251.length co57)) = w58 at n0_ n1_ n2_ n3_ n4_ n5_ n6_ n7_ ⊢
     have HO242:=n0_
     have HO248:=n1_
     have HO253:=n2_
     have BK235:=n3_
     have BK236:=n4_
     have BK249:=n5_
     have BK254:=n6_
     have HB:=n7_
     clear n0_ n1_ n2_ n3_ n4_ n5_ n6_ n7_
     have n0_:=zm0_ (k3_ HO242.out)
     have n1_:=zm0_ (zn7_ HO248.out)
     have n2_:=zm0_ (k3_ HO253.out)
     have n3_:=zm0_ (k7_ BK235.out)
     have n4_:=zm0_ (k7_ BK236.out)
     have n5_:=zm0_ (k7_ BK249.out)
     have n6_:=zm0_ (k7_ BK254.out)
     have n7_:=zm0_ (zm4_ HB.out)
     clear HO242
     clear HO248
     clear HO253
     clear BK235
     clear BK236
     clear BK249
     clear BK254
     clear HB
     have HO242:=n0_
     have HO248:=n1_
     have HO253:=n2_
     have BK235:=n3_
     have BK236:=n4_
     have BK249:=n5_
     have BK254:=n6_
     have HB:=n7_
     clear n0_ n1_ n2_ n3_ n4_ n5_ n6_ n7_
     refine start_ (n:=6) (S:=fun w' => w'.cell? ⟨gb254,0,none⟩ = some (.int .i64 t250) ∧ w'.cell? ⟨gb254,1,none⟩ = some (.slice Ao57 t251.length co57) ∧ w'.cell? ⟨gb236,0,none⟩ = some (.string a1_0) ∧ w'.cell? ⟨gb236,1,none⟩ = some (.string a1_1)) (ds:=[]) #[Z,Z,Z,Z,Z,Z] (by kernel_rfl) rfl rfl ⟨(zm6_ BK254.out 0).trans rfl,(zm6_ BK254.out 1).trans rfl,(zm6_ BK236.out 0).trans rfl,(zm6_ BK236.out 1).trans rfl⟩ (fun hHeld => ?_)
     generalize w58.drew = w59 at HO242 HO248 HO253 BK235 BK236 BK249 BK254 HB hHeld ⊢
     refine take_ (i:=0) (N:=some 30) (v:=?_) (a':=?_) #[Y,Z,Z,Z,Z,Z] rfl rfl (by kernel_rfl) (fun _ _ _ h => h) (Or.inl ⟨by rfl,?_⟩) hHeld ?_ ?_
     rotate_left
     ·
      rintro w' ⟨s0,s1,s2,s3⟩
      go_simp
      with_reducible rfl
     rotate_left
     ·
      simp only [Act.put,lA_,lB_,lC_,i64_w,i32_w]
      rfl
     refine take_ (i:=1) (N:=some 31) (v:=?_) (a':=?_) #[Y,Y,Z,Z,Z,Z] rfl rfl (by kernel_rfl) (fun _ _ _ h => h) (Or.inl ⟨by rfl,?_⟩) hHeld ?_ ?_
     rotate_left
     ·
      rintro w' ⟨s0,s1,s2,s3⟩
      go_simp
      with_reducible rfl
     rotate_left
     ·
      simp only [Act.put,lA_,lB_,lC_,i64_w,i32_w]
      rfl
     refine join_ (σ:=Value × Nat) 1 #[Y,Y,Y,Y,Y,Z] (fun s_ => [(32,.agg #[.string t255,.string t256]),(33,.agg #[.int .i64 t257,s_.1]),(8,.pointer (some ⟨s_.2,0,none⟩))]) (fun s_ w' => (w'.cell? ⟨gb254,0,none⟩ = some (.int .i64 t250) ∧ w'.cell? ⟨gb254,1,none⟩ = some (.slice Ao57 t251.length co57) ∧ w'.cell? ⟨gb236,0,none⟩ = some (.string a1_0) ∧ w'.cell? ⟨gb236,1,none⟩ = some (.string a1_1)) ∧ (Kd.R k33 33 w' w.heap.size (fun k_ => some k_ ≠ (.slice Ao57 t251.length co57 : Value).ownBlock ∧ some k_ ≠ (s_.1 : Value).ownBlock) v241 t240) ∧ (Kd.V k33 33 w' w.heap.size (fun k_ => some k_ ≠ (v241 : Value).ownBlock ∧ some k_ ≠ (.slice Ao57 t251.length co57 : Value).ownBlock ∧ some k_ ≠ (s_.1 : Value).ownBlock ∧ k_ ≠ gb235 ∧ k_ ≠ gb236 ∧ k_ ≠ gb249 ∧ k_ ≠ gb254 ∧ k_ ≠ s_.2) (.slice Ao47 t246.length co47) t246) ∧ (Kd.R k33 33 w' w.heap.size (fun k_ => some k_ ≠ (v241 : Value).ownBlock ∧ some k_ ≠ (s_.1 : Value).ownBlock) (.slice Ao57 t251.length co57) t251) ∧ (Kd.R k33 33 w' w.heap.size (fun k_ => some k_ ≠ (v241 : Value).ownBlock ∧ some k_ ≠ (.slice Ao57 t251.length co57 : Value).ownBlock) s_.1 t258) ∧ (w'.heap[gb235]? = some (.cells #[.int .i64 a0_0,.slice A0_1 l0_1.length c0_1] 47 (0,0))) ∧ (w'.heap[gb236]? = some (.cells #[.string a1_0,.string a1_1] 69 (0,0))) ∧ (w'.heap[gb249]? = some (.cells #[.int .i64 t245,.slice Ao47 t246.length co47] 26 (0,0))) ∧ (w'.heap[gb254]? = some (.cells #[.int .i64 t250,.slice Ao57 t251.length co57] 26 (0,0))) ∧ (w'.heap[s_.2]? = some (.cells #[.int .i64 0,.slice none 0 0] 26 (0,0))) ∧ (w.heap.size ≤ s_.2) ∧ (w.heap.size ≤ s_.2) ∧ (gb235 ≠ s_.2) ∧ (s_.2 ≠ gb235) ∧ (gb236 ≠ s_.2) ∧ (s_.2 ≠ gb236) ∧ (gb249 ≠ s_.2) ∧ (s_.2 ≠ gb249) ∧ (gb254 ≠ s_.2) ∧ (s_.2 ≠ gb254) ∧ (Below w.heap.size w w')) ?_ ?_
     rotate_left
     ·
      intro hCont
      refine two_ (i:=2) (j:=4) (Ni:=some 32) (Nj:=some 8) #[Y,Y,Y,Z,Z,Z] #[Y,Y,Z,Z,Y,Z] rfl rfl rfl rfl (by kernel_rfl) (by decide) (by decide) (fun K hK => ?_) (fun K hK => ?_)
      ·
       skip
       refine goes_ Try.func47 (by kernel_rfl) rfl #[.agg #[.string a1_0,.string a1_1]] (by rfl) rfl rfl (by (try simp only [zp1_,zp2_,zp3_]);first|done|rfl|(simp only [zp4_,zp5_];rfl)) ?_
       with_reducible refine (laws_toField.calls a1_0 a1_1 t255 t256 _ A23.out).mono ?_
       rintro e w60 ⟨rfl,hb⟩
       refine ⟨_,rfl,?_⟩
       have n0_:=zm0_ (zm8_ (by (with_reducible repeat (first|apply k1_|apply k2_|apply k3_));exact HO242.out) hb)
       have n1_:=zm0_ (zm9_ (by (with_reducible repeat (first|apply zn5_|apply zn6_|apply zn7_));exact HO248.out) hb)
       have n2_:=zm0_ (zm8_ (by (with_reducible repeat (first|apply k1_|apply k2_|apply k3_));exact HO253.out) hb)
       have n3_:=zm0_ (zm5_ (by (with_reducible repeat (first|refine k6_ ?_ _|refine k7_ ?_|refine k5_ ?_ _));exact BK235.out) hb)
       have n4_:=zm0_ (zm5_ (by (with_reducible repeat (first|refine k6_ ?_ _|refine k7_ ?_|refine k5_ ?_ _));exact BK236.out) hb)
       have n5_:=zm0_ (zm5_ (by (with_reducible repeat (first|refine k6_ ?_ _|refine k7_ ?_|refine k5_ ?_ _));exact BK249.out) hb)
       have n6_:=zm0_ (zm5_ (by (with_reducible repeat (first|refine k6_ ?_ _|refine k7_ ?_|refine k5_ ?_ _));exact BK254.out) hb)
       have n7_:=zm0_ (zn8_ (by repeat (first|(with_reducible first|exact HB.out|apply zm3_|apply zm2_|apply zm4_|refine zm1_ ?_ GE235.out|refine zm1_ ?_ GE236.out|refine zm1_ ?_ GE249.out|refine zm1_ ?_ GE254.out)|exact HB.out)) hb)
       clear HO242
       clear HO248
       clear HO253
       clear BK235
       clear BK236
       clear BK249
       clear BK254
       clear HB
       have HO242:=n0_
       have HO248:=n1_
       have HO253:=n2_
       have BK235:=n3_
       have BK236:=n4_
       have BK249:=n5_
       have BK254:=n6_
       have HB:=n7_
       clear n0_ n1_ n2_ n3_ n4_ n5_ n6_ n7_
       (try clear hb)
       (try clear hb2)
       (try clear hk)
       (try clear hi)
       refine hK.out _ _ ⟨(zm6_ BK254.out 0).trans rfl,(zm6_ BK254.out 1).trans rfl,(zm6_ BK236.out 0).trans rfl,(zm6_ BK236.out 1).trans rfl⟩ (fun hHeld => ?_)
       clear hK K
       refine norm_ (a':=?_) ?_ ?_
       rotate_left
       ·
        show Act.put _ (some 32) _ = _
        simp only [Act.put,lA_,lB_,lC_,i64_w,i32_w]
        rfl
       refine two_ (i:=3) (j:=4) (Ni:=some 33) (Nj:=some 8) #[Y,Y,Y,Y,Z,Z] #[Y,Y,Y,Z,Y,Z] rfl rfl rfl rfl (by kernel_rfl) (by decide) (by decide) (fun K hK => ?_) (fun K hK => ?_)
       ·
        skip
        refine goes_ Try.func48 (by kernel_rfl) rfl #[.agg #[.int .i64 t250,.slice Ao57 t251.length co57],.agg #[.string t255,.string t256]] (by rfl) rfl rfl (by (try simp only [zp1_,zp2_,zp3_]);first|done|rfl|(simp only [zp4_,zp5_];rfl)) ?_
        with_reducible refine (impl_AddField.calls k t250 _ _ t251 t255 t256 t257 t258 _ ?side1 ?side2 A24.out).mono ?_
        (case side1 => repeat (first|exact (Kd.R_reads' HO253.out).2.2|(with_reducible refine Kd.C_alloc ?_ _)|(with_reducible refine Kd.C_drewN ?_ _)|(with_reducible refine Kd.C_drew ?_)))
        (case side2 => exact (Kd.R_reads' HO253.out).2.1)
        rintro e w61 ⟨v259,rfl,ho0,hb⟩
        refine ⟨_,rfl,?_⟩
        have n0_:=zm0_ (Kd.R_elder' (by (with_reducible repeat (first|apply k1_|apply k2_|apply k3_));exact HO242.out) (Kd.R_base ho0) hb)
        have n1_:=zm0_ (Kd.V_elder' (by (with_reducible repeat (first|apply zn5_|apply zn6_|apply zn7_));exact HO248.out) (Kd.R_base ho0) hb)
        have n2_:=zm0_ (Kd.R_elder' (by (with_reducible repeat (first|apply k1_|apply k2_|apply k3_));exact HO253.out) (Kd.R_base ho0) hb)
        have n3_:=zm0_ (zo1_ (Kd.R_new' (Kd.R_new' ho0 (Kd.R_lt (by (with_reducible repeat (first|apply k1_|apply k2_|apply k3_));exact HO242.out))) (Kd.R_lt (by (with_reducible repeat (first|apply k1_|apply k2_|apply k3_));exact HO253.out))) (zn9_ (by repeat (first|(with_reducible first|exact HB.out|apply zm3_|apply zm2_|apply zm4_|refine zm1_ ?_ GE235.out|refine zm1_ ?_ GE236.out|refine zm1_ ?_ GE249.out|refine zm1_ ?_ GE254.out)|exact HB.out))))
        have n4_:=zm0_ (zm5_ (by (with_reducible repeat (first|refine k6_ ?_ _|refine k7_ ?_|refine k5_ ?_ _));exact BK235.out) hb)
        have n5_:=zm0_ (zm5_ (by (with_reducible repeat (first|refine k6_ ?_ _|refine k7_ ?_|refine k5_ ?_ _));exact BK236.out) hb)
        have n6_:=zm0_ (zm5_ (by (with_reducible repeat (first|refine k6_ ?_ _|refine k7_ ?_|refine k5_ ?_ _));exact BK249.out) hb)
        have n7_:=zm0_ (zm5_ (by (with_reducible repeat (first|refine k6_ ?_ _|refine k7_ ?_|refine k5_ ?_ _));exact BK254.out) hb)
        have n8_:=zm0_ (zn8_ (by repeat (first|(with_reducible first|exact HB.out|apply zm3_|apply zm2_|apply zm4_|refine zm1_ ?_ GE235.out|refine zm1_ ?_ GE236.out|refine zm1_ ?_ GE249.out|refine zm1_ ?_ GE254.out)|exact HB.out)) hb)
        clear HO242
        clear HO248
        clear HO253
        clear BK235
        clear BK236
        clear BK249
        clear BK254
        clear HB
        have HO242:=n0_
        have HO248:=n1_
        have HO253:=n2_
        have HO260:=n3_
        have BK235:=n4_
        have BK236:=n5_
        have BK249:=n6_
        have BK254:=n7_
        have HB:=n8_
        clear n0_ n1_ n2_ n3_ n4_ n5_ n6_ n7_ n8_
        (try clear hb)
        (try clear hb2)
        (try clear hk)
        (try clear hi)
        (try clear ho0)
        refine hK.out _ _ ⟨(zm6_ BK254.out 0).trans rfl,(zm6_ BK254.out 1).trans rfl,(zm6_ BK236.out 0).trans rfl,(zm6_ BK236.out 1).trans rfl⟩ (fun hHeld => ?_)
        clear hK K
        refine norm_ (a':=?_) ?_ ?_
        rotate_left
        ·
         show Act.put _ (some 33) _ = _
         simp only [Act.put,lA_,lB_,lC_,i64_w,i32_w]
         rfl
        refine one_ (i:=4) (N:=some 8) #[Y,Y,Y,Y,Y,Z] rfl rfl (by kernel_rfl) (by decide) (fun K hK => ?_)
        refine box_step ?hg (N:=8) ?hd (cs:=#[.int .i64 0,.slice none 0 0]) (t:=26) ?hr ?_;(case hd => rfl);(case hg => rfl);(case hr => first|(go_simp;done)|(go_simp;rfl))
        intro gb261 hg w62 hbox hb
        have n0_:=zm0_ (zm8_ (by (with_reducible repeat (first|apply k1_|apply k2_|apply k3_));exact HO242.out) hb)
        have n1_:=zm0_ (zm9_ (Kd.V_elderB (by (with_reducible repeat (first|apply zn5_|apply zn6_|apply zn7_));exact HO248.out) gb261 (Nat.le_of_eq hg.symm)) hb)
        have n2_:=zm0_ (zm8_ (by (with_reducible repeat (first|apply k1_|apply k2_|apply k3_));exact HO253.out) hb)
        have n3_:=zm0_ (zm8_ (by (with_reducible repeat (first|apply k1_|apply k2_|apply k3_));exact HO260.out) hb)
        have n4_:=zm0_ (zm5_ (by (with_reducible repeat (first|refine k6_ ?_ _|refine k7_ ?_|refine k5_ ?_ _));exact BK235.out) hb)
        have n5_:=zm0_ (zm5_ (by (with_reducible repeat (first|refine k6_ ?_ _|refine k7_ ?_|refine k5_ ?_ _));exact BK236.out) hb)
        have n6_:=zm0_ (zm5_ (by (with_reducible repeat (first|refine k6_ ?_ _|refine k7_ ?_|refine k5_ ?_ _));exact BK249.out) hb)
        have n7_:=zm0_ (zm5_ (by (with_reducible repeat (first|refine k6_ ?_ _|refine k7_ ?_|refine k5_ ?_ _));exact BK254.out) hb)
        have n8_:=zm0_ (zn8_ (by repeat (first|(with_reducible first|exact HB.out|apply zm3_|apply zm2_|apply zm4_|refine zm1_ ?_ GE235.out|refine zm1_ ?_ GE236.out|refine zm1_ ?_ GE249.out|refine zm1_ ?_ GE254.out)|exact HB.out)) hb)
        have n9_:=zm0_ (hbox)
        have n10_:=zm0_ ((by rw [hg];exact (zn9_ (by repeat (first|(with_reducible first|exact HB.out|apply zm3_|apply zm2_|apply zm4_|refine zm1_ ?_ GE235.out|refine zm1_ ?_ GE236.out|refine zm1_ ?_ GE249.out|refine zm1_ ?_ GE254.out)|exact HB.out))) : w.heap.size ≤ gb261))
        have n11_:=zm0_ ((by rw [hg];exact (zn9_ (by repeat (first|(with_reducible first|exact HB.out|apply zm3_|apply zm2_|apply zm4_|refine zm1_ ?_ GE235.out|refine zm1_ ?_ GE236.out|refine zm1_ ?_ GE249.out|refine zm1_ ?_ GE254.out)|exact HB.out))) : w.heap.size ≤ gb261))
        have n12_:=zm0_ ((by rw [hg];exact Nat.ne_of_lt (zo3_ (g:=gb235) (o:=.cells #[.int .i64 a0_0,.slice A0_1 l0_1.length c0_1] 47 (0,0)) (by (with_reducible repeat (first|refine k6_ ?_ _|refine k7_ ?_|refine k5_ ?_ _));exact BK235.out)) : gb235 ≠ gb261))
        have n13_:=zm0_ ((by rw [hg];exact Nat.ne_of_gt (zo3_ (g:=gb235) (o:=.cells #[.int .i64 a0_0,.slice A0_1 l0_1.length c0_1] 47 (0,0)) (by (with_reducible repeat (first|refine k6_ ?_ _|refine k7_ ?_|refine k5_ ?_ _));exact BK235.out)) : gb261 ≠ gb235))
        have n14_:=zm0_ ((by rw [hg];exact Nat.ne_of_lt (zo3_ (g:=gb236) (o:=.cells #[.string a1_0,.string a1_1] 69 (0,0)) (by (with_reducible repeat (first|refine k6_ ?_ _|refine k7_ ?_|refine k5_ ?_ _));exact BK236.out)) : gb236 ≠ gb261))
        have n15_:=zm0_ ((by rw [hg];exact Nat.ne_of_gt (zo3_ (g:=gb236) (o:=.cells #[.string a1_0,.string a1_1] 69 (0,0)) (by (with_reducible repeat (first|refine k6_ ?_ _|refine k7_ ?_|refine k5_ ?_ _));exact BK236.out)) : gb261 ≠ gb236))
        have n16_:=zm0_ ((by rw [hg];exact Nat.ne_of_lt (zo3_ (g:=gb249) (o:=.cells #[.int .i64 t245,.slice Ao47 t246.length co47] 26 (0,0)) (by (with_reducible repeat (first|refine k6_ ?_ _|refine k7_ ?_|refine k5_ ?_ _));exact BK249.out)) : gb249 ≠ gb261))
        have n17_:=zm0_ ((by rw [hg];exact Nat.ne_of_gt (zo3_ (g:=gb249) (o:=.cells #[.int .i64 t245,.slice Ao47 t246.length co47] 26 (0,0)) (by (with_reducible repeat (first|refine k6_ ?_ _|refine k7_ ?_|refine k5_ ?_ _));exact BK249.out)) : gb261 ≠ gb249))
        have n18_:=zm0_ ((by rw [hg];exact Nat.ne_of_lt (zo3_ (g:=gb254) (o:=.cells #[.int .i64 t250,.slice Ao57 t251.length co57] 26 (0,0)) (by (with_reducible repeat (first|refine k6_ ?_ _|refine k7_ ?_|refine k5_ ?_ _));exact BK254.out)) : gb254 ≠ gb261))
        have n19_:=zm0_ ((by rw [hg];exact Nat.ne_of_gt (zo3_ (g:=gb254) (o:=.cells #[.int .i64 t250,.slice Ao57 t251.length co57] 26 (0,0)) (by (with_reducible repeat (first|refine k6_ ?_ _|refine k7_ ?_|refine k5_ ?_ _));exact BK254.out)) : gb261 ≠ gb254))
        clear HO242
        clear HO248
        clear HO253
        clear HO260
        clear BK235
        clear BK236
        clear BK249
        clear BK254
        clear HB
        have HO242:=n0_
        have HO248:=n1_
        have HO253:=n2_
        have HO260:=n3_
        have BK235:=n4_
        have BK236:=n5_
        have BK249:=n6_
        have BK254:=n7_
        have HB:=n8_
        have BK261:=n9_
        have GW261:=n10_
        have GE261:=n11_
        have NB235_261:=n12_
        have NB261_235:=n13_
        have NB236_261:=n14_
        have NB261_236:=n15_
        have NB249_261:=n16_
        have NB261_249:=n17_
        have NB254_261:=n18_
        have NB261_254:=n19_
        clear n0_ n1_ n2_ n3_ n4_ n5_ n6_ n7_ n8_ n9_ n10_ n11_ n12_ n13_ n14_ n15_ n16_ n17_ n18_ n19_
        clear hb hbox hg
        refine hK.out _ _ ⟨(zm6_ BK254.out 0).trans rfl,(zm6_ BK254.out 1).trans rfl,(zm6_ BK236.out 0).trans rfl,(zm6_ BK236.out 1).trans rfl⟩ (fun hHeld => ?_)
        clear hK K
        refine norm_ (a':=?_) ?_ ?_
        rotate_left
        ·
         show Act.put _ (some 8) _ = _
         simp only [Act.put,lA_,lB_,lC_,i64_w,i32_w]
         rfl
        exact norm_ (by simp only [putAll,Act.put,lA_,lB_,lC_]) (hCont (v259,gb261) _ ⟨hHeld,(by (with_reducible repeat (first|apply k1_|apply k2_|apply k3_));exact HO242.out),(by (with_reducible repeat (first|apply zn5_|apply zn6_|apply zn7_));exact Kd.V_mono HO248.out (fun _ hk => ⟨(by first|exact hk.1.1.1|(have hq_:=hk;simp only [ne_eq] at hq_ ⊢;simp only [hq_,k8_,and_self])),⟨(by first|exact hk.1.1.2.1|(have hq_:=hk;simp only [ne_eq] at hq_ ⊢;simp only [hq_,k8_,and_self])),⟨(by first|exact hk.1.2|(have hq_:=hk;simp only [ne_eq] at hq_ ⊢;simp only [hq_,k8_,and_self])),⟨(by first|exact hk.1.1.2.2.1|(have hq_:=hk;simp only [ne_eq] at hq_ ⊢;simp only [hq_,k8_,and_self])),⟨(by first|exact hk.1.1.2.2.2.1|(have hq_:=hk;simp only [ne_eq] at hq_ ⊢;simp only [hq_,k8_,and_self])),⟨(by first|exact hk.1.1.2.2.2.2.1|(have hq_:=hk;simp only [ne_eq] at hq_ ⊢;simp only [hq_,k8_,and_self])),⟨(by first|exact hk.1.1.2.2.2.2.2|(have hq_:=hk;simp only [ne_eq] at hq_ ⊢;simp only [hq_,k8_,and_self])),(by first|exact hk.2|(have hq_:=hk;simp only [ne_eq] at hq_ ⊢;simp only [hq_,k8_,and_self]))⟩⟩⟩⟩⟩⟩⟩)),(by (with_reducible repeat (first|apply k1_|apply k2_|apply k3_));exact HO253.out),(by (with_reducible repeat (first|apply k1_|apply k2_|apply k3_));exact zo2_ HO260.out (fun _ hk => ⟨(by first|exact hk.1.2|(have hq_:=hk;simp only [ne_eq] at hq_ ⊢;simp only [hq_,k8_,and_self])),(by first|exact hk.2|(have hq_:=hk;simp only [ne_eq] at hq_ ⊢;simp only [hq_,k8_,and_self]))⟩)),(by (with_reducible repeat (first|refine k6_ ?_ _|refine k7_ ?_|refine k5_ ?_ _));exact BK235.out),(by (with_reducible repeat (first|refine k6_ ?_ _|refine k7_ ?_|refine k5_ ?_ _));exact BK236.out),(by (with_reducible repeat (first|refine k6_ ?_ _|refine k7_ ?_|refine k5_ ?_ _));exact BK249.out),(by (with_reducible repeat (first|refine k6_ ?_ _|refine k7_ ?_|refine k5_ ?_ _));exact BK254.out),(by (with_reducible repeat (first|refine k6_ ?_ _|refine k7_ ?_|refine k5_ ?_ _));exact BK261.out),GW261.out,GE261.out,NB235_261.out,NB261_235.out,NB236_261.out,NB261_236.out,NB249_261.out,NB261_249.out,NB254_261.out,NB261_254.out,(by repeat (first|(with_reducible first|exact HB.out|apply zm3_|apply zm2_|apply zm4_|refine zm1_ ?_ GE235.out|refine zm1_ ?_ GE236.out|refine zm1_ ?_ GE249.out|refine zm1_ ?_ GE254.out|refine zm1_ ?_ GE261.out)|exact HB.out))⟩)
       ·
        skip
        refine box_step ?hg (N:=8) ?hd (cs:=#[.int .i64 0,.slice none 0 0]) (t:=26) ?hr ?_;(case hd => rfl);(case hg => rfl);(case hr => first|(go_simp;done)|(go_simp;rfl))
        intro gb261 hg w61 hbox hb
        have n0_:=zm0_ (zm8_ (by (with_reducible repeat (first|apply k1_|apply k2_|apply k3_));exact HO242.out) hb)
        have n1_:=zm0_ (zm9_ (Kd.V_elderB (by (with_reducible repeat (first|apply zn5_|apply zn6_|apply zn7_));exact HO248.out) gb261 (Nat.le_of_eq hg.symm)) hb)
        have n2_:=zm0_ (zm8_ (by (with_reducible repeat (first|apply k1_|apply k2_|apply k3_));exact HO253.out) hb)
        have n3_:=zm0_ (zm5_ (by (with_reducible repeat (first|refine k6_ ?_ _|refine k7_ ?_|refine k5_ ?_ _));exact BK235.out) hb)
        have n4_:=zm0_ (zm5_ (by (with_reducible repeat (first|refine k6_ ?_ _|refine k7_ ?_|refine k5_ ?_ _));exact BK236.out) hb)
        have n5_:=zm0_ (zm5_ (by (with_reducible repeat (first|refine k6_ ?_ _|refine k7_ ?_|refine k5_ ?_ _));exact BK249.out) hb)
        have n6_:=zm0_ (zm5_ (by (with_reducible repeat (first|refine k6_ ?_ _|refine k7_ ?_|refine k5_ ?_ _));exact BK254.out) hb)
        have n7_:=zm0_ (zn8_ (by repeat (first|(with_reducible first|exact HB.out|apply zm3_|apply zm2_|apply zm4_|refine zm1_ ?_ GE235.out|refine zm1_ ?_ GE236.out|refine zm1_ ?_ GE249.out|refine zm1_ ?_ GE254.out)|exact HB.out)) hb)
        have n8_:=zm0_ (hbox)
        have n9_:=zm0_ ((by rw [hg];exact (zn9_ (by repeat (first|(with_reducible first|exact HB.out|apply zm3_|apply zm2_|apply zm4_|refine zm1_ ?_ GE235.out|refine zm1_ ?_ GE236.out|refine zm1_ ?_ GE249.out|refine zm1_ ?_ GE254.out)|exact HB.out))) : w.heap.size ≤ gb261))
        have n10_:=zm0_ ((by rw [hg];exact (zn9_ (by repeat (first|(with_reducible first|exact HB.out|apply zm3_|apply zm2_|apply zm4_|refine zm1_ ?_ GE235.out|refine zm1_ ?_ GE236.out|refine zm1_ ?_ GE249.out|refine zm1_ ?_ GE254.out)|exact HB.out))) : w.heap.size ≤ gb261))
        have n11_:=zm0_ ((by rw [hg];exact Nat.ne_of_lt (zo3_ (g:=gb235) (o:=.cells #[.int .i64 a0_0,.slice A0_1 l0_1.length c0_1] 47 (0,0)) (by (with_reducible repeat (first|refine k6_ ?_ _|refine k7_ ?_|refine k5_ ?_ _));exact BK235.out)) : gb235 ≠ gb261))
        have n12_:=zm0_ ((by rw [hg];exact Nat.ne_of_gt (zo3_ (g:=gb235) (o:=.cells #[.int .i64 a0_0,.slice A0_1 l0_1.length c0_1] 47 (0,0)) (by (with_reducible repeat (first|refine k6_ ?_ _|refine k7_ ?_|refine k5_ ?_ _));exact BK235.out)) : gb261 ≠ gb235))
        have n13_:=zm0_ ((by rw [hg];exact Nat.ne_of_lt (zo3_ (g:=gb236) (o:=.cells #[.string a1_0,.string a1_1] 69 (0,0)) (by (with_reducible repeat (first|refine k6_ ?_ _|refine k7_ ?_|refine k5_ ?_ _));exact BK236.out)) : gb236 ≠ gb261))
        have n14_:=zm0_ ((by rw [hg];exact Nat.ne_of_gt (zo3_ (g:=gb236) (o:=.cells #[.string a1_0,.string a1_1] 69 (0,0)) (by (with_reducible repeat (first|refine k6_ ?_ _|refine k7_ ?_|refine k5_ ?_ _));exact BK236.out)) : gb261 ≠ gb236))
        have n15_:=zm0_ ((by rw [hg];exact Nat.ne_of_lt (zo3_ (g:=gb249) (o:=.cells #[.int .i64 t245,.slice Ao47 t246.length co47] 26 (0,0)) (by (with_reducible repeat (first|refine k6_ ?_ _|refine k7_ ?_|refine k5_ ?_ _));exact BK249.out)) : gb249 ≠ gb261))
        have n16_:=zm0_ ((by rw [hg];exact Nat.ne_of_gt (zo3_ (g:=gb249) (o:=.cells #[.int .i64 t245,.slice Ao47 t246.length co47] 26 (0,0)) (by (with_reducible repeat (first|refine k6_ ?_ _|refine k7_ ?_|refine k5_ ?_ _));exact BK249.out)) : gb261 ≠ gb249))
        have n17_:=zm0_ ((by rw [hg];exact Nat.ne_of_lt (zo3_ (g:=gb254) (o:=.cells #[.int .i64 t250,.slice Ao57 t251.length co57] 26 (0,0)) (by (with_reducible repeat (first|refine k6_ ?_ _|refine k7_ ?_|refine k5_ ?_ _));exact BK254.out)) : gb254 ≠ gb261))
        have n18_:=zm0_ ((by rw [hg];exact Nat.ne_of_gt (zo3_ (g:=gb254) (o:=.cells #[.int .i64 t250,.slice Ao57 t251.length co57] 26 (0,0)) (by (with_reducible repeat (first|refine k6_ ?_ _|refine k7_ ?_|refine k5_ ?_ _));exact BK254.out)) : gb261 ≠ gb254))
        clear HO242
        clear HO248
        clear HO253
        clear BK235
        clear BK236
        clear BK249
        clear BK254
        clear HB
        have HO242:=n0_
        have HO248:=n1_
        have HO253:=n2_
        have BK235:=n3_
        have BK236:=n4_
        have BK249:=n5_
        have BK254:=n6_
        have HB:=n7_
        have BK261:=n8_
        have GW261:=n9_
        have GE261:=n10_
        have NB235_261:=n11_
        have NB261_235:=n12_
        have NB236_261:=n13_
        have NB261_236:=n14_
        have NB249_261:=n15_
        have NB261_249:=n16_
        have NB254_261:=n17_
        have NB261_254:=n18_
        clear n0_ n1_ n2_ n3_ n4_ n5_ n6_ n7_ n8_ n9_ n10_ n11_ n12_ n13_ n14_ n15_ n16_ n17_ n18_
        clear hb hbox hg
        refine hK.out _ _ ⟨(zm6_ BK254.out 0).trans rfl,(zm6_ BK254.out 1).trans rfl,(zm6_ BK236.out 0).trans rfl,(zm6_ BK236.out 1).trans rfl⟩ (fun hHeld => ?_)
        clear hK K
        refine norm_ (a':=?_) ?_ ?_
        rotate_left
        ·
         show Act.put _ (some 8) _ = _
         simp only [Act.put,lA_,lB_,lC_,i64_w,i32_w]
         rfl
        refine one_ (i:=3) (N:=some 33) #[Y,Y,Y,Y,Y,Z] rfl rfl (by kernel_rfl) (by decide) (fun K hK => ?_)
        refine goes_ Try.func48 (by kernel_rfl) rfl #[.agg #[.int .i64 t250,.slice Ao57 t251.length co57],.agg #[.string t255,.string t256]] (by rfl) rfl rfl (by (try simp only [zp1_,zp2_,zp3_]);first|done|rfl|(simp only [zp4_,zp5_];rfl)) ?_
        with_reducible refine (impl_AddField.calls k t250 _ _ t251 t255 t256 t257 t258 _ ?side1 ?side2 A24.out).mono ?_
        (case side1 => repeat (first|exact (Kd.R_reads' HO253.out).2.2|(with_reducible refine Kd.C_alloc ?_ _)|(with_reducible refine Kd.C_drewN ?_ _)|(with_reducible refine Kd.C_drew ?_)))
        (case side2 => exact (Kd.R_reads' HO253.out).2.1)
        rintro e w62 ⟨v259,rfl,ho0,hb⟩
        refine ⟨_,rfl,?_⟩
        have n0_:=zm0_ (Kd.R_elder' (by (with_reducible repeat (first|apply k1_|apply k2_|apply k3_));exact HO242.out) (Kd.R_base ho0) hb)
        have n1_:=zm0_ (Kd.V_elder' (by (with_reducible repeat (first|apply zn5_|apply zn6_|apply zn7_));exact HO248.out) (Kd.R_base ho0) hb)
        have n2_:=zm0_ (Kd.R_elder' (by (with_reducible repeat (first|apply k1_|apply k2_|apply k3_));exact HO253.out) (Kd.R_base ho0) hb)
        have n3_:=zm0_ (zo1_ (Kd.R_new' (Kd.R_new' ho0 (Kd.R_lt (by (with_reducible repeat (first|apply k1_|apply k2_|apply k3_));exact HO242.out))) (Kd.R_lt (by (with_reducible repeat (first|apply k1_|apply k2_|apply k3_));exact HO253.out))) (zn9_ (by repeat (first|(with_reducible first|exact HB.out|apply zm3_|apply zm2_|apply zm4_|refine zm1_ ?_ GE235.out|refine zm1_ ?_ GE236.out|refine zm1_ ?_ GE249.out|refine zm1_ ?_ GE254.out|refine zm1_ ?_ GE261.out)|exact HB.out))))
        have n4_:=zm0_ (zm5_ (by (with_reducible repeat (first|refine k6_ ?_ _|refine k7_ ?_|refine k5_ ?_ _));exact BK235.out) hb)
        have n5_:=zm0_ (zm5_ (by (with_reducible repeat (first|refine k6_ ?_ _|refine k7_ ?_|refine k5_ ?_ _));exact BK236.out) hb)
        have n6_:=zm0_ (zm5_ (by (with_reducible repeat (first|refine k6_ ?_ _|refine k7_ ?_|refine k5_ ?_ _));exact BK249.out) hb)
        have n7_:=zm0_ (zm5_ (by (with_reducible repeat (first|refine k6_ ?_ _|refine k7_ ?_|refine k5_ ?_ _));exact BK254.out) hb)
        have n8_:=zm0_ (zm5_ (by (with_reducible repeat (first|refine k6_ ?_ _|refine k7_ ?_|refine k5_ ?_ _));exact BK261.out) hb)
        have n9_:=zm0_ (zn8_ (by repeat (first|(with_reducible first|exact HB.out|apply zm3_|apply zm2_|apply zm4_|refine zm1_ ?_ GE235.out|refine zm1_ ?_ GE236.out|refine zm1_ ?_ GE249.out|refine zm1_ ?_ GE254.out|refine zm1_ ?_ GE261.out)|exact HB.out)) hb)
        clear HO242
        clear HO248
        clear HO253
        clear BK235
        clear BK236
        clear BK249
        clear BK254
        clear BK261
        clear HB
        have HO242:=n0_
        have HO248:=n1_
        have HO253:=n2_
        have HO260:=n3_
        have BK235:=n4_
        have BK236:=n5_
        have BK249:=n6_
        have BK254:=n7_
        have BK261:=n8_
        have HB:=n9_
        clear n0_ n1_ n2_ n3_ n4_ n5_ n6_ n7_ n8_ n9_
        (try clear hb)
        (try clear hb2)
        (try clear hk)
        (try clear hi)
        (try clear ho0)
        refine hK.out _ _ ⟨(zm6_ BK254.out 0).trans rfl,(zm6_ BK254.out 1).trans rfl,(zm6_ BK236.out 0).trans rfl,(zm6_ BK236.out 1).trans rfl⟩ (fun hHeld => ?_)
        clear hK K
        refine norm_ (a':=?_) ?_ ?_
        rotate_left
        ·
         show Act.put _ (some 33) _ = _
         simp only [Act.put,lA_,lB_,lC_,i64_w,i32_w]
         rfl
        exact norm_ (by simp only [putAll,Act.put,lA_,lB_,lC_]) (hCont (v259,gb261) _ ⟨hHeld,(by (with_reducible repeat (first|apply k1_|apply k2_|apply k3_));exact HO242.out),(by (with_reducible repeat (first|apply zn5_|apply zn6_|apply zn7_));exact Kd.V_mono HO248.out (fun _ hk => ⟨(by first|exact hk.1.1.1|(have hq_:=hk;simp only [ne_eq] at hq_ ⊢;simp only [hq_,k8_,and_self])),⟨(by first|exact hk.1.1.2.1|(have hq_:=hk;simp only [ne_eq] at hq_ ⊢;simp only [hq_,k8_,and_self])),⟨(by first|exact hk.2|(have hq_:=hk;simp only [ne_eq] at hq_ ⊢;simp only [hq_,k8_,and_self])),⟨(by first|exact hk.1.1.2.2.1|(have hq_:=hk;simp only [ne_eq] at hq_ ⊢;simp only [hq_,k8_,and_self])),⟨(by first|exact hk.1.1.2.2.2.1|(have hq_:=hk;simp only [ne_eq] at hq_ ⊢;simp only [hq_,k8_,and_self])),⟨(by first|exact hk.1.1.2.2.2.2.1|(have hq_:=hk;simp only [ne_eq] at hq_ ⊢;simp only [hq_,k8_,and_self])),⟨(by first|exact hk.1.1.2.2.2.2.2|(have hq_:=hk;simp only [ne_eq] at hq_ ⊢;simp only [hq_,k8_,and_self])),(by first|exact hk.1.2|(have hq_:=hk;simp only [ne_eq] at hq_ ⊢;simp only [hq_,k8_,and_self]))⟩⟩⟩⟩⟩⟩⟩)),(by (with_reducible repeat (first|apply k1_|apply k2_|apply k3_));exact HO253.out),(by (with_reducible repeat (first|apply k1_|apply k2_|apply k3_));exact zo2_ HO260.out (fun _ hk => ⟨(by first|exact hk.1.2|(have hq_:=hk;simp only [ne_eq] at hq_ ⊢;simp only [hq_,k8_,and_self])),(by first|exact hk.2|(have hq_:=hk;simp only [ne_eq] at hq_ ⊢;simp only [hq_,k8_,and_self]))⟩)),(by (with_reducible repeat (first|refine k6_ ?_ _|refine k7_ ?_|refine k5_ ?_ _));exact BK235.out),(by (with_reducible repeat (first|refine k6_ ?_ _|refine k7_ ?_|refine k5_ ?_ _));exact BK236.out),(by (with_reducible repeat (first|refine k6_ ?_ _|refine k7_ ?_|refine k5_ ?_ _));exact BK249.out),(by (with_reducible repeat (first|refine k6_ ?_ _|refine k7_ ?_|refine k5_ ?_ _));exact BK254.out),(by (with_reducible repeat (first|refine k6_ ?_ _|refine k7_ ?_|refine k5_ ?_ _));exact BK261.out),GW261.out,GE261.out,NB235_261.out,NB261_235.out,NB236_261.out,NB261_236.out,NB249_261.out,NB261_249.out,NB254_261.out,NB261_254.out,(by repeat (first|(with_reducible first|exact HB.out|apply zm3_|apply zm2_|apply zm4_|refine zm1_ ?_ GE235.out|refine zm1_ ?_ GE236.out|refine zm1_ ?_ GE249.out|refine zm1_ ?_ GE254.out|refine zm1_ ?_ GE261.out)|exact HB.out))⟩)
      ·
       skip
       refine box_step ?hg (N:=8) ?hd (cs:=#[.int .i64 0,.slice none 0 0]) (t:=26) ?hr ?_;(case hd => rfl);(case hg => rfl);(case hr => first|(go_simp;done)|(go_simp;rfl))
       intro gb261 hg w60 hbox hb
       have n0_:=zm0_ (zm8_ (by (with_reducible repeat (first|apply k1_|apply k2_|apply k3_));exact HO242.out) hb)
       have n1_:=zm0_ (zm9_ (Kd.V_elderB (by (with_reducible repeat (first|apply zn5_|apply zn6_|apply zn7_));exact HO248.out) gb261 (Nat.le_of_eq hg.symm)) hb)
       have n2_:=zm0_ (zm8_ (by (with_reducible repeat (first|apply k1_|apply k2_|apply k3_));exact HO253.out) hb)
       have n3_:=zm0_ (zm5_ (by (with_reducible repeat (first|refine k6_ ?_ _|refine k7_ ?_|refine k5_ ?_ _));exact BK235.out) hb)
       have n4_:=zm0_ (zm5_ (by (with_reducible repeat (first|refine k6_ ?_ _|refine k7_ ?_|refine k5_ ?_ _));exact BK236.out) hb)
       have n5_:=zm0_ (zm5_ (by (with_reducible repeat (first|refine k6_ ?_ _|refine k7_ ?_|refine k5_ ?_ _));exact BK249.out) hb)
       have n6_:=zm0_ (zm5_ (by (with_reducible repeat (first|refine k6_ ?_ _|refine k7_ ?_|refine k5_ ?_ _));exact BK254.out) hb)
       have n7_:=zm0_ (zn8_ (by repeat (first|(with_reducible first|exact HB.out|apply zm3_|apply zm2_|apply zm4_|refine zm1_ ?_ GE235.out|refine zm1_ ?_ GE236.out|refine zm1_ ?_ GE249.out|refine zm1_ ?_ GE254.out)|exact HB.out)) hb)
       have n8_:=zm0_ (hbox)
       have n9_:=zm0_ ((by rw [hg];exact (zn9_ (by repeat (first|(with_reducible first|exact HB.out|apply zm3_|apply zm2_|apply zm4_|refine zm1_ ?_ GE235.out|refine zm1_ ?_ GE236.out|refine zm1_ ?_ GE249.out|refine zm1_ ?_ GE254.out)|exact HB.out))) : w.heap.size ≤ gb261))
       have n10_:=zm0_ ((by rw [hg];exact (zn9_ (by repeat (first|(with_reducible first|exact HB.out|apply zm3_|apply zm2_|apply zm4_|refine zm1_ ?_ GE235.out|refine zm1_ ?_ GE236.out|refine zm1_ ?_ GE249.out|refine zm1_ ?_ GE254.out)|exact HB.out))) : w.heap.size ≤ gb261))
       have n11_:=zm0_ ((by rw [hg];exact Nat.ne_of_lt (zo3_ (g:=gb235) (o:=.cells #[.int .i64 a0_0,.slice A0_1 l0_1.length c0_1] 47 (0,0)) (by (with_reducible repeat (first|refine k6_ ?_ _|refine k7_ ?_|refine k5_ ?_ _));exact BK235.out)) : gb235 ≠ gb261))
       have n12_:=zm0_ ((by rw [hg];exact Nat.ne_of_gt (zo3_ (g:=gb235) (o:=.cells #[.int .i64 a0_0,.slice A0_1 l0_1.length c0_1] 47 (0,0)) (by (with_reducible repeat (first|refine k6_ ?_ _|refine k7_ ?_|refine k5_ ?_ _));exact BK235.out)) : gb261 ≠ gb235))
       have n13_:=zm0_ ((by rw [hg];exact Nat.ne_of_lt (zo3_ (g:=gb236) (o:=.cells #[.string a1_0,.string a1_1] 69 (0,0)) (by (with_reducible repeat (first|refine k6_ ?_ _|refine k7_ ?_|refine k5_ ?_ _));exact BK236.out)) : gb236 ≠ gb261))
       have n14_:=zm0_ ((by rw [hg];exact Nat.ne_of_gt (zo3_ (g:=gb236) (o:=.cells #[.string a1_0,.string a1_1] 69 (0,0)) (by (with_reducible repeat (first|refine k6_ ?_ _|refine k7_ ?_|refine k5_ ?_ _));exact BK236.out)) : gb261 ≠ gb236))
       have n15_:=zm0_ ((by rw [hg];exact Nat.ne_of_lt (zo3_ (g:=gb249) (o:=.cells #[.int .i64 t245,.slice Ao47 t246.length co47] 26 (0,0)) (by (with_reducible repeat (first|refine k6_ ?_ _|refine k7_ ?_|refine k5_ ?_ _));exact BK249.out)) : gb249 ≠ gb261))
       have n16_:=zm0_ ((by rw [hg];exact Nat.ne_of_gt (zo3_ (g:=gb249) (o:=.cells #[.int .i64 t245,.slice Ao47 t246.length co47] 26 (0,0)) (by (with_reducible repeat (first|refine k6_ ?_ _|refine k7_ ?_|refine k5_ ?_ _));exact BK249.out)) : gb261 ≠ gb249))
       have n17_:=zm0_ ((by rw [hg];exact Nat.ne_of_lt (zo3_ (g:=gb254) (o:=.cells #[.int .i64 t250,.slice Ao57 t251.length co57] 26 (0,0)) (by (with_reducible repeat (first|refine k6_ ?_ _|refine k7_ ?_|refine k5_ ?_ _));exact BK254.out)) : gb254 ≠ gb261))
       have n18_:=zm0_ ((by rw [hg];exact Nat.ne_of_gt (zo3_ (g:=gb254) (o:=.cells #[.int .i64 t250,.slice Ao57 t251.length co57] 26 (0,0)) (by (with_reducible repeat (first|refine k6_ ?_ _|refine k7_ ?_|refine k5_ ?_ _));exact BK254.out)) : gb261 ≠ gb254))
       clear HO242
       clear HO248
       clear HO253
       clear BK235
       clear BK236
       clear BK249
       clear BK254
       clear HB
       have HO242:=n0_
       have HO248:=n1_
       have HO253:=n2_
       have BK235:=n3_
       have BK236:=n4_
       have BK249:=n5_
       have BK254:=n6_
       have HB:=n7_
       have BK261:=n8_
       have GW261:=n9_
       have GE261:=n10_
       have NB235_261:=n11_
       have NB261_235:=n12_
       have NB236_261:=n13_
       have NB261_236:=n14_
       have NB249_261:=n15_
       have NB261_249:=n16_
       have NB254_261:=n17_
       have NB261_254:=n18_
       clear n0_ n1_ n2_ n3_ n4_ n5_ n6_ n7_ n8_ n9_ n10_ n11_ n12_ n13_ n14_ n15_ n16_ n17_ n18_
       clear hb hbox hg
       refine hK.out _ _ ⟨(zm6_ BK254.out 0).trans rfl,(zm6_ BK254.out 1).trans rfl,(zm6_ BK236.out 0).trans rfl,(zm6_ BK236.out 1).trans rfl⟩ (fun hHeld => ?_)
       clear hK K
       refine norm_ (a':=?_) ?_ ?_
       rotate_left
       ·
        show Act.put _ (some 8) _ = _
        simp only [Act.put,lA_,lB_,lC_,i64_w,i32_w]
        rfl
       refine one_ (i:=2) (N:=some 32) #[Y,Y,Y,Z,Y,Z] rfl rfl (by kernel_rfl) (by decide) (fun K hK => ?_)
       refine goes_ Try.func47 (by kernel_rfl) rfl #[.agg #[.string a1_0,.string a1_1]] (by rfl) rfl rfl (by (try simp only [zp1_,zp2_,zp3_]);first|done|rfl|(simp only [zp4_,zp5_];rfl)) ?_
       with_reducible refine (laws_toField.calls a1_0 a1_1 t255 t256 _ A23.out).mono ?_
       rintro e w61 ⟨rfl,hb⟩
       refine ⟨_,rfl,?_⟩
       have n0_:=zm0_ (zm8_ (by (with_reducible repeat (first|apply k1_|apply k2_|apply k3_));exact HO242.out) hb)
       have n1_:=zm0_ (zm9_ (by (with_reducible repeat (first|apply zn5_|apply zn6_|apply zn7_));exact HO248.out) hb)
       have n2_:=zm0_ (zm8_ (by (with_reducible repeat (first|apply k1_|apply k2_|apply k3_));exact HO253.out) hb)
       have n3_:=zm0_ (zm5_ (by (with_reducible repeat (first|refine k6_ ?_ _|refine k7_ ?_|refine k5_ ?_ _));exact BK235.out) hb)
       have n4_:=zm0_ (zm5_ (by (with_reducible repeat (first|refine k6_ ?_ _|refine k7_ ?_|refine k5_ ?_ _));exact BK236.out) hb)
       have n5_:=zm0_ (zm5_ (by (with_reducible repeat (first|refine k6_ ?_ _|refine k7_ ?_|refine k5_ ?_ _));exact BK249.out) hb)
       have n6_:=zm0_ (zm5_ (by (with_reducible repeat (first|refine k6_ ?_ _|refine k7_ ?_|refine k5_ ?_ _));exact BK254.out) hb)
       have n7_:=zm0_ (zm5_ (by (with_reducible repeat (first|refine k6_ ?_ _|refine k7_ ?_|refine k5_ ?_ _));exact BK261.out) hb)
       have n8_:=zm0_ (zn8_ (by repeat (first|(with_reducible first|exact HB.out|apply zm3_|apply zm2_|apply zm4_|refine zm1_ ?_ GE235.out|refine zm1_ ?_ GE236.out|refine zm1_ ?_ GE249.out|refine zm1_ ?_ GE254.out|refine zm1_ ?_ GE261.out)|exact HB.out)) hb)
       clear HO242
       clear HO248
       clear HO253
       clear BK235
       clear BK236
       clear BK249
       clear BK254
       clear BK261
       clear HB
       have HO242:=n0_
       have HO248:=n1_
       have HO253:=n2_
       have BK235:=n3_
       have BK236:=n4_
       have BK249:=n5_
       have BK254:=n6_
       have BK261:=n7_
       have HB:=n8_
       clear n0_ n1_ n2_ n3_ n4_ n5_ n6_ n7_ n8_
       (try clear hb)
       (try clear hb2)
       (try clear hk)
       (try clear hi)
       refine hK.out _ _ ⟨(zm6_ BK254.out 0).trans rfl,(zm6_ BK254.out 1).trans rfl,(zm6_ BK236.out 0).trans rfl,(zm6_ BK236.out 1).trans rfl⟩ (fun hHeld => ?_)
       clear hK K
       refine norm_ (a':=?_) ?_ ?_
       rotate_left
       ·
        show Act.put _ (some 32) _ = _
        simp only [Act.put,lA_,lB_,lC_,i64_w,i32_w]
        rfl
       refine one_ (i:=3) (N:=some 33) #[Y,Y,Y,Y,Y,Z] rfl rfl (by kernel_rfl) (by decide) (fun K hK => ?_)
       refine goes_ Try.func48 (by kernel_rfl) rfl #[.agg #[.int .i64 t250,.slice Ao57 t251.length co57],.agg #[.string t255,.string t256]] (by rfl) rfl rfl (by (try simp only [zp1_,zp2_,zp3_]);first|done|rfl|(simp only [zp4_,zp5_];rfl)) ?_
       with_reducible refine (impl_AddField.calls k t250 _ _ t251 t255 t256 t257 t258 _ ?side1 ?side2 A24.out).mono ?_
       (case side1 => repeat (first|exact (Kd.R_reads' HO253.out).2.2|(with_reducible refine Kd.C_alloc ?_ _)|(with_reducible refine Kd.C_drewN ?_ _)|(with_reducible refine Kd.C_drew ?_)))
       (case side2 => exact (Kd.R_reads' HO253.out).2.1)
       rintro e w62 ⟨v259,rfl,ho0,hb⟩
       refine ⟨_,rfl,?_⟩
       have n0_:=zm0_ (Kd.R_elder' (by (with_reducible repeat (first|apply k1_|apply k2_|apply k3_));exact HO242.out) (Kd.R_base ho0) hb)
       have n1_:=zm0_ (Kd.V_elder' (by (with_reducible repeat (first|apply zn5_|apply zn6_|apply zn7_));exact HO248.out) (Kd.R_base ho0) hb)
       have n2_:=zm0_ (Kd.R_elder' (by (with_reducible repeat (first|apply k1_|apply k2_|apply k3_));exact HO253.out) (Kd.R_base ho0) hb)
       have n3_:=zm0_ (zo1_ (Kd.R_new' (Kd.R_new' ho0 (Kd.R_lt (by (with_reducible repeat (first|apply k1_|apply k2_|apply k3_));exact HO242.out))) (Kd.R_lt (by (with_reducible repeat (first|apply k1_|apply k2_|apply k3_));exact HO253.out))) (zn9_ (by repeat (first|(with_reducible first|exact HB.out|apply zm3_|apply zm2_|apply zm4_|refine zm1_ ?_ GE235.out|refine zm1_ ?_ GE236.out|refine zm1_ ?_ GE249.out|refine zm1_ ?_ GE254.out|refine zm1_ ?_ GE261.out)|exact HB.out))))
       have n4_:=zm0_ (zm5_ (by (with_reducible repeat (first|refine k6_ ?_ _|refine k7_ ?_|refine k5_ ?_ _));exact BK235.out) hb)
       have n5_:=zm0_ (zm5_ (by (with_reducible repeat (first|refine k6_ ?_ _|refine k7_ ?_|refine k5_ ?_ _));exact BK236.out) hb)
       have n6_:=zm0_ (zm5_ (by (with_reducible repeat (first|refine k6_ ?_ _|refine k7_ ?_|refine k5_ ?_ _));exact BK249.out) hb)
       have n7_:=zm0_ (zm5_ (by (with_reducible repeat (first|refine k6_ ?_ _|refine k7_ ?_|refine k5_ ?_ _));exact BK254.out) hb)
       have n8_:=zm0_ (zm5_ (by (with_reducible repeat (first|refine k6_ ?_ _|refine k7_ ?_|refine k5_ ?_ _));exact BK261.out) hb)
       have n9_:=zm0_ (zn8_ (by repeat (first|(with_reducible first|exact HB.out|apply zm3_|apply zm2_|apply zm4_|refine zm1_ ?_ GE235.out|refine zm1_ ?_ GE236.out|refine zm1_ ?_ GE249.out|refine zm1_ ?_ GE254.out|refine zm1_ ?_ GE261.out)|exact HB.out)) hb)
       clear HO242
       clear HO248
       clear HO253
       clear BK235
       clear BK236
       clear BK249
       clear BK254
       clear BK261
       clear HB
       have HO242:=n0_
       have HO248:=n1_
       have HO253:=n2_
       have HO260:=n3_
       have BK235:=n4_
       have BK236:=n5_
       have BK249:=n6_
       have BK254:=n7_
       have BK261:=n8_
       have HB:=n9_
       clear n0_ n1_ n2_ n3_ n4_ n5_ n6_ n7_ n8_ n9_
       (try clear hb)
       (try clear hb2)
       (try clear hk)
       (try clear hi)
       (try clear ho0)
       refine hK.out _ _ ⟨(zm6_ BK254.out 0).trans rfl,(zm6_ BK254.out 1).trans rfl,(zm6_ BK236.out 0).trans rfl,(zm6_ BK236.out 1).trans rfl⟩ (fun hHeld => ?_)
       clear hK K
       refine norm_ (a':=?_) ?_ ?_
       rotate_left
       ·
        show Act.put _ (some 33) _ = _
        simp only [Act.put,lA_,lB_,lC_,i64_w,i32_w]
        rfl
       exact norm_ (by simp only [putAll,Act.put,lA_,lB_,lC_]) (hCont (v259,gb261) _ ⟨hHeld,(by (with_reducible repeat (first|apply k1_|apply k2_|apply k3_));exact HO242.out),(by (with_reducible repeat (first|apply zn5_|apply zn6_|apply zn7_));exact Kd.V_mono HO248.out (fun _ hk => ⟨(by first|exact hk.1.1.1|(have hq_:=hk;simp only [ne_eq] at hq_ ⊢;simp only [hq_,k8_,and_self])),⟨(by first|exact hk.1.1.2.1|(have hq_:=hk;simp only [ne_eq] at hq_ ⊢;simp only [hq_,k8_,and_self])),⟨(by first|exact hk.2|(have hq_:=hk;simp only [ne_eq] at hq_ ⊢;simp only [hq_,k8_,and_self])),⟨(by first|exact hk.1.1.2.2.1|(have hq_:=hk;simp only [ne_eq] at hq_ ⊢;simp only [hq_,k8_,and_self])),⟨(by first|exact hk.1.1.2.2.2.1|(have hq_:=hk;simp only [ne_eq] at hq_ ⊢;simp only [hq_,k8_,and_self])),⟨(by first|exact hk.1.1.2.2.2.2.1|(have hq_:=hk;simp only [ne_eq] at hq_ ⊢;simp only [hq_,k8_,and_self])),⟨(by first|exact hk.1.1.2.2.2.2.2|(have hq_:=hk;simp only [ne_eq] at hq_ ⊢;simp only [hq_,k8_,and_self])),(by first|exact hk.1.2|(have hq_:=hk;simp only [ne_eq] at hq_ ⊢;simp only [hq_,k8_,and_self]))⟩⟩⟩⟩⟩⟩⟩)),(by (with_reducible repeat (first|apply k1_|apply k2_|apply k3_));exact HO253.out),(by (with_reducible repeat (first|apply k1_|apply k2_|apply k3_));exact zo2_ HO260.out (fun _ hk => ⟨(by first|exact hk.1.2|(have hq_:=hk;simp only [ne_eq] at hq_ ⊢;simp only [hq_,k8_,and_self])),(by first|exact hk.2|(have hq_:=hk;simp only [ne_eq] at hq_ ⊢;simp only [hq_,k8_,and_self]))⟩)),(by (with_reducible repeat (first|refine k6_ ?_ _|refine k7_ ?_|refine k5_ ?_ _));exact BK235.out),(by (with_reducible repeat (first|refine k6_ ?_ _|refine k7_ ?_|refine k5_ ?_ _));exact BK236.out),(by (with_reducible repeat (first|refine k6_ ?_ _|refine k7_ ?_|refine k5_ ?_ _));exact BK249.out),(by (with_reducible repeat (first|refine k6_ ?_ _|refine k7_ ?_|refine k5_ ?_ _));exact BK254.out),(by (with_reducible repeat (first|refine k6_ ?_ _|refine k7_ ?_|refine k5_ ?_ _));exact BK261.out),GW261.out,GE261.out,NB235_261.out,NB261_235.out,NB236_261.out,NB261_236.out,NB249_261.out,NB261_249.out,NB254_261.out,NB261_254.out,(by repeat (first|(with_reducible first|exact HB.out|apply zm3_|apply zm2_|apply zm4_|refine zm1_ ?_ GE235.out|refine zm1_ ?_ GE236.out|refine zm1_ ?_ GE249.out|refine zm1_ ?_ GE254.out|refine zm1_ ?_ GE261.out)|exact HB.out))⟩)
     rintro ⟨v259,gb261⟩ w63 ⟨hS_,h0_,h1_,h2_,h3_,h4_,h5_,h6_,h7_,h8_,h9_,h10_,h11_,h12_,h13_,h14_,h15_,h16_,h17_,h18_,h19_⟩
     have n0_ : Aside0 (Kd.R k33 33 w63 w.heap.size (fun k_ => some k_ ≠ (.slice Ao57 t251.length co57 : Value).ownBlock ∧ some k_ ≠ (v259 : Value).ownBlock) v241 t240):=⟨h0_⟩
     have n1_ : Aside0 (Kd.V k33 33 w63 w.heap.size (fun k_ => some k_ ≠ (v241 : Value).ownBlock ∧ some k_ ≠ (.slice Ao57 t251.length co57 : Value).ownBlock ∧ some k_ ≠ (v259 : Value).ownBlock ∧ k_ ≠ gb235 ∧ k_ ≠ gb236 ∧ k_ ≠ gb249 ∧ k_ ≠ gb254 ∧ k_ ≠ gb261) (.slice Ao47 t246.length co47) t246):=⟨h1_⟩
     have n2_ : Aside0 (Kd.R k33 33 w63 w.heap.size (fun k_ => some k_ ≠ (v241 : Value).ownBlock ∧ some k_ ≠ (v259 : Value).ownBlock) (.slice Ao57 t251.length co57) t251):=⟨h2_⟩
     have n3_ : Aside0 (Kd.R k33 33 w63 w.heap.size (fun k_ => some k_ ≠ (v241 : Value).ownBlock ∧ some k_ ≠ (.slice Ao57 t251.length co57 : Value).ownBlock) v259 t258):=⟨h3_⟩
     have n4_ : Aside0 (w63.heap[gb235]? = some (.cells #[.int .i64 a0_0,.slice A0_1 l0_1.length c0_1] 47 (0,0))):=⟨h4_⟩
     have n5_ : Aside0 (w63.heap[gb236]? = some (.cells #[.string a1_0,.string a1_1] 69 (0,0))):=⟨h5_⟩
     have n6_ : Aside0 (w63.heap[gb249]? = some (.cells #[.int .i64 t245,.slice Ao47 t246.length co47] 26 (0,0))):=⟨h6_⟩
     have n7_ : Aside0 (w63.heap[gb254]? = some (.cells #[.int .i64 t250,.slice Ao57 t251.length co57] 26 (0,0))):=⟨h7_⟩
     have n8_ : Aside0 (w63.heap[gb261]? = some (.cells #[.int .i64 0,.slice none 0 0] 26 (0,0))):=⟨h8_⟩
     have n9_ : Aside0 (w.heap.size ≤ gb261):=⟨h9_⟩
     have n10_ : Aside0 (w.heap.size ≤ gb261):=⟨h10_⟩
     have n11_ : Aside0 (gb235 ≠ gb261):=⟨h11_⟩
     have n12_ : Aside0 (gb261 ≠ gb235):=⟨h12_⟩
     have n13_ : Aside0 (gb236 ≠ gb261):=⟨h13_⟩
     have n14_ : Aside0 (gb261 ≠ gb236):=⟨h14_⟩
     have n15_ : Aside0 (gb249 ≠ gb261):=⟨h15_⟩
     have n16_ : Aside0 (gb261 ≠ gb249):=⟨h16_⟩
     have n17_ : Aside0 (gb254 ≠ gb261):=⟨h17_⟩
     have n18_ : Aside0 (gb261 ≠ gb254):=⟨h18_⟩
     have n19_ : Aside0 (Below w.heap.size w w63):=⟨h19_⟩
     clear HO242
     clear HO248
     clear HO253
     clear BK235
     clear BK236
     clear BK249
     clear BK254
     clear HB
     clear h0_ h1_ h2_ h3_ h4_ h5_ h6_ h7_ h8_ h9_ h10_ h11_ h12_ h13_ h14_ h15_ h16_ h17_ h18_ h19_
     have HO242:=n0_
     have HO248:=n1_
     have HO253:=n2_
     have HO260:=n3_
     have BK235:=n4_
     have BK236:=n5_
     have BK249:=n6_
     have BK254:=n7_
     have BK261:=n8_
     have GW261:=n9_
     have GE261:=n10_
     have NB235_261:=n11_
     have NB261_235:=n12_
     have NB236_261:=n13_
     have NB261_236:=n14_
     have NB249_261:=n15_
     have NB261_249:=n16_
     have NB254_261:=n17_
     have NB261_254:=n18_
     have HB:=n19_
     clear n0_ n1_ n2_ n3_ n4_ n5_ n6_ n7_ n8_ n9_ n10_ n11_ n12_ n13_ n14_ n15_ n16_ n17_ n18_ n19_
     have hHeld : w63.cell? ⟨gb254,0,none⟩ = some (.int .i64 t250) ∧ w63.cell? ⟨gb254,1,none⟩ = some (.slice Ao57 t251.length co57) ∧ w63.cell? ⟨gb236,0,none⟩ = some (.string a1_0) ∧ w63.cell? ⟨gb236,1,none⟩ = some (.string a1_1):=hS_
     obtain ⟨Ao65,co65,eo65⟩:=Kd.R_slice HO260.out
     (first|subst eo65|(injection eo65 with f1_ f2_ f3_;have f4_:=f1_.symm;have f5_:=f3_.symm;clear f1_ f2_ f3_;subst f4_;subst f5_))
     refine norm_ (a':=?_) ?_ ?_
     rotate_left
     ·
      simp only [putAll,Act.put,lA_,lB_,lC_]
      rfl
     refine one_ (i:=5) (N:=none) #[Y,Y,Y,Y,Y,Y] rfl rfl (by kernel_rfl) (by decide) (fun K hK => ?_)
     have hs64 : w63.cell? ⟨gb261,0,none⟩ = some (.int .i64 0):=(zm6_ BK261.out 0).trans rfl
     have hfs64:=zm7_ BK261.out 0
     have hns64_0:=NB235_261.out
     have hns64_1:=NB236_261.out
     have hns64_2:=NB249_261.out
     have hns64_3:=NB254_261.out
     have hms64_0:=NB261_235.out
     have hms64_1:=NB261_236.out
     have hms64_2:=NB261_249.out
     have hms64_3:=NB261_254.out
     have hs66 : w63.cell? ⟨gb261,1,none⟩ = some (.slice none 0 0):=(zm6_ BK261.out 1).trans rfl
     have hfs66:=zm7_ BK261.out 1
     have hns66_0:=NB235_261.out
     have hns66_1:=NB236_261.out
     have hns66_2:=NB249_261.out
     have hns66_3:=NB254_261.out
     have hms66_0:=NB261_235.out
     have hms66_1:=NB261_236.out
     have hms66_2:=NB261_249.out
     have hms66_3:=NB261_254.out
     refine skip_ (w1:=?_) (by rfl) rfl ?_ ?_
     rotate_left
     ·
      go_simp
      rfl
     refine hK.out _ _ ⟨((cell_far (p:=⟨gb261,_,none⟩) NB254_261.out _).trans (((cell_far (p:=⟨gb261,_,none⟩) NB254_261.out _).trans (hHeld.1)))),((cell_far (p:=⟨gb261,_,none⟩) NB254_261.out _).trans (((cell_far (p:=⟨gb261,_,none⟩) NB254_261.out _).trans (hHeld.2.1)))),((cell_far (p:=⟨gb261,_,none⟩) NB236_261.out _).trans (((cell_far (p:=⟨gb261,_,none⟩) NB236_261.out _).trans (hHeld.2.2.1)))),((cell_far (p:=⟨gb261,_,none⟩) NB236_261.out _).trans (((cell_far (p:=⟨gb261,_,none⟩) NB236_261.out _).trans (hHeld.2.2.2))))⟩ (fun hHeld => ?_)
     clear hK K
     refine done_ (by kernel_rfl) ?_
     have hnb67:=NB261_235.out
     have hnc67:=NB235_261.out
     have hnb68:=NB261_236.out
     have hnc68:=NB236_261.out
     have hnb69:=NB261_249.out
     have hnc69:=NB249_261.out
     have hnb70:=NB261_254.out
     have hnc70:=NB254_261.out
     have hcz71_0 : w63.cell? ⟨gb261,0,none⟩ = some (.int .i64 0):=(zm6_ BK261.out 0).trans rfl
     have hcz71_1 : w63.cell? ⟨gb261,1,none⟩ = some (.slice none 0 0):=(zm6_ BK261.out 1).trans rfl
     have hfz71_0:=zm7_ BK261.out 0
     have hfz71_1:=zm7_ BK261.out 1
     have hnb72:=NB249_236.out
     have hnc72:=NB236_249.out
     have hcz73_0 : w63.cell? ⟨gb249,0,none⟩ = some (.int .i64 t245):=(zm6_ BK249.out 0).trans rfl
     have hcz73_1 : w63.cell? ⟨gb249,1,none⟩ = some (.slice Ao47 t246.length co47):=(zm6_ BK249.out 1).trans rfl
     have hfz73_0:=zm7_ BK249.out 0
     have hfz73_1:=zm7_ BK249.out 1
     try go_wp2_with (first|((with_reducible refine gate_callee (f:=30) rfl ?_);refine goesL_ (some 36) rfl rfl Try.func30 (by kernel_rfl) rfl #[.agg #[.int .i64 t257,.slice Ao65 t258.length co65],.agg #[.int .i64 t245,.slice Ao47 t246.length co47]] rfl (by (try simp only [zp1_,zp2_,zp3_]);first|done|rfl|(simp only [zp4_,zp5_];rfl)) ?_;(with_reducible refine (laws_eqTable.calls k t257 _ _ t258 t245 _ _ t246 true _ ?side1 ?side2 ?side3 ?side4 A25.out).mono ?_);(case side1 => refine (Kd.R_reads' (e:=33) (base:=w.heap.size) (ok:=fun k_ => (some k_ ≠ (v241 : Value).ownBlock ∧ some k_ ≠ (.slice Ao57 t251.length co57 : Value).ownBlock)) (n:=t258.length) (c:=co65) ?_).2.2;exact (by (with_reducible repeat (first|apply k1_|apply k2_|apply k3_));exact (zo2_ (k4_ (p:=⟨gb261,1,none⟩) (k4_ (p:=⟨gb261,0,none⟩) (Kd.R_types HO260.out BK261.out (by decide)) (fun _ hk => hk.2) (.int .i64 t257)) (fun _ hk => hk.2) (.slice Ao65 t258.length co65)) (fun _ h_ => h_.1))));(case side2 => exact (Kd.R_reads' HO260.out).2.1);(case side3 => refine (Kd.V_reads' (e:=33) (base:=w.heap.size) (ok:=fun k_ => (some k_ ≠ (v241 : Value).ownBlock ∧ (some k_ ≠ (.slice Ao57 t251.length co57 : Value).ownBlock ∧ (some k_ ≠ (.slice Ao65 t258.length co65 : Value).ownBlock ∧ (k_ ≠ gb235 ∧ (k_ ≠ gb236 ∧ (k_ ≠ gb249 ∧ (k_ ≠ gb254 ∧ k_ ≠ gb261)))))))) (n:=t246.length) (c:=co47) ?_).2.2;exact (by (with_reducible repeat (first|apply zn5_|apply zn6_|apply zn7_));exact (Kd.V_mono (Kd.V_far (p:=⟨gb261,1,none⟩) (Kd.V_far (p:=⟨gb261,0,none⟩) (Kd.V_mono HO248.out (fun k_ hk => (⟨hk,(by first|exact hk.2.2.2.2.2.2.2|(have hq_:=hk;simp only [ne_eq] at hq_ ⊢;simp only [hq_,k8_,and_self]))⟩ : _ ∧ k_ ≠ gb261))) (fun _ hk => hk.2) (.int .i64 t257)) (fun _ hk => hk.2) (.slice Ao65 t258.length co65)) (fun _ h_ => h_.1))));(case side4 => exact (Kd.V_reads' HO248.out).2.1);rintro e w74 ⟨rfl,hb⟩;refine ⟨_,rfl,?_⟩;have n0_:=zm0_ (zm8_ (by (with_reducible repeat (first|apply k1_|apply k2_|apply k3_));exact (zo2_ (k4_ (p:=⟨gb261,1,none⟩) (k4_ (p:=⟨gb261,0,none⟩) (Kd.R_types HO242.out BK261.out (by decide)) (fun _ hk => hk.2) (.int .i64 t257)) (fun _ hk => hk.2) (.slice Ao65 t258.length co65)) (fun _ h_ => h_.1))) hb);have n1_:=zm0_ (zm9_ (by (with_reducible repeat (first|apply zn5_|apply zn6_|apply zn7_));exact (Kd.V_mono (Kd.V_far (p:=⟨gb261,1,none⟩) (Kd.V_far (p:=⟨gb261,0,none⟩) (Kd.V_mono HO248.out (fun k_ hk => (⟨hk,(by first|exact hk.2.2.2.2.2.2.2|(have hq_:=hk;simp only [ne_eq] at hq_ ⊢;simp only [hq_,k8_,and_self]))⟩ : _ ∧ k_ ≠ gb261))) (fun _ hk => hk.2) (.int .i64 t257)) (fun _ hk => hk.2) (.slice Ao65 t258.length co65)) (fun _ h_ => h_.1))) hb);have n2_:=zm0_ (zm8_ (by (with_reducible repeat (first|apply k1_|apply k2_|apply k3_));exact (zo2_ (k4_ (p:=⟨gb261,1,none⟩) (k4_ (p:=⟨gb261,0,none⟩) (Kd.R_types HO253.out BK261.out (by decide)) (fun _ hk => hk.2) (.int .i64 t257)) (fun _ hk => hk.2) (.slice Ao65 t258.length co65)) (fun _ h_ => h_.1))) hb);have n3_:=zm0_ (zm8_ (by (with_reducible repeat (first|apply k1_|apply k2_|apply k3_));exact (zo2_ (k4_ (p:=⟨gb261,1,none⟩) (k4_ (p:=⟨gb261,0,none⟩) (Kd.R_types HO260.out BK261.out (by decide)) (fun _ hk => hk.2) (.int .i64 t257)) (fun _ hk => hk.2) (.slice Ao65 t258.length co65)) (fun _ h_ => h_.1))) hb);have n4_:=zm0_ (zm5_ (g:=gb235) (o:=.cells #[.int .i64 a0_0,.slice A0_1 l0_1.length c0_1] 47 (0,0)) (by (with_reducible repeat (first|refine k6_ ?_ _|refine k7_ ?_|refine k5_ ?_ _));refine blk_far ?_ NB235_261.out _;(with_reducible repeat (first|refine k6_ ?_ _|refine k7_ ?_|refine k5_ ?_ _));refine blk_far ?_ NB235_261.out _;(with_reducible repeat (first|refine k6_ ?_ _|refine k7_ ?_|refine k5_ ?_ _));exact BK235.out) hb);have n5_:=zm0_ (zm5_ (g:=gb236) (o:=.cells #[.string a1_0,.string a1_1] 69 (0,0)) (by (with_reducible repeat (first|refine k6_ ?_ _|refine k7_ ?_|refine k5_ ?_ _));refine blk_far ?_ NB236_261.out _;(with_reducible repeat (first|refine k6_ ?_ _|refine k7_ ?_|refine k5_ ?_ _));refine blk_far ?_ NB236_261.out _;(with_reducible repeat (first|refine k6_ ?_ _|refine k7_ ?_|refine k5_ ?_ _));exact BK236.out) hb);have n6_:=zm0_ (zm5_ (g:=gb249) (o:=.cells #[.int .i64 t245,.slice Ao47 t246.length co47] 26 (0,0)) (by (with_reducible repeat (first|refine k6_ ?_ _|refine k7_ ?_|refine k5_ ?_ _));refine blk_far ?_ NB249_261.out _;(with_reducible repeat (first|refine k6_ ?_ _|refine k7_ ?_|refine k5_ ?_ _));refine blk_far ?_ NB249_261.out _;(with_reducible repeat (first|refine k6_ ?_ _|refine k7_ ?_|refine k5_ ?_ _));exact BK249.out) hb);have n7_:=zm0_ (zm5_ (g:=gb254) (o:=.cells #[.int .i64 t250,.slice Ao57 t251.length co57] 26 (0,0)) (by (with_reducible repeat (first|refine k6_ ?_ _|refine k7_ ?_|refine k5_ ?_ _));refine blk_far ?_ NB254_261.out _;(with_reducible repeat (first|refine k6_ ?_ _|refine k7_ ?_|refine k5_ ?_ _));refine blk_far ?_ NB254_261.out _;(with_reducible repeat (first|refine k6_ ?_ _|refine k7_ ?_|refine k5_ ?_ _));exact BK254.out) hb);have n8_:=zm0_ (zm5_ (g:=gb261) (o:=.cells #[.int .i64 t257,.slice Ao65 t258.length co65] 26 (0,0)) (by (with_reducible repeat (first|refine k6_ ?_ _|refine k7_ ?_|refine k5_ ?_ _));refine blk_put (cs:=#[.int .i64 t257,.slice none 0 0]) ?_ 1 _ rfl;(with_reducible repeat (first|refine k6_ ?_ _|refine k7_ ?_|refine k5_ ?_ _));refine blk_put (cs:=#[.int .i64 0,.slice none 0 0]) ?_ 0 _ rfl;(with_reducible repeat (first|refine k6_ ?_ _|refine k7_ ?_|refine k5_ ?_ _));exact BK261.out) hb);have n9_:=zm0_ (zn8_ (by repeat (first|(with_reducible first|exact HB.out|apply zm3_|apply zm2_|apply zm4_|refine zm1_ ?_ GE235.out|refine zm1_ ?_ GE236.out|refine zm1_ ?_ GE249.out|refine zm1_ ?_ GE254.out|refine zm1_ ?_ GE261.out)|exact HB.out)) hb);clear HO242;clear HO248;clear HO253;clear HO260;clear BK235;clear BK236;clear BK249;clear BK254;clear BK261;clear HB;have HO242:=n0_;have HO248:=n1_;have HO253:=n2_;have HO260:=n3_;have BK235:=n4_;have BK236:=n5_;have BK249:=n6_;have BK254:=n7_;have BK261:=n8_;have HB:=n9_;clear n0_ n1_ n2_ n3_ n4_ n5_ n6_ n7_ n8_ n9_;(try clear hb);(try clear hb2);(try clear hk);(try clear hi)))
     have n0_:=zm0_ (k3_ HO242.out)
     have n1_:=zm0_ (zn7_ HO248.out)
     have n2_:=zm0_ (k3_ HO253.out)
     have n3_:=zm0_ (k3_ HO260.out)
     have n4_:=zm0_ (k7_ BK235.out)
     have n5_:=zm0_ (k7_ BK236.out)
     have n6_:=zm0_ (k7_ BK249.out)
     have n7_:=zm0_ (k7_ BK254.out)
     have n8_:=zm0_ (k7_ BK261.out)
     have n9_:=zm0_ (zm4_ HB.out)
     clear HO242
     clear HO248
     clear HO253
     clear HO260
     clear BK235
     clear BK236
     clear BK249
     clear BK254
     clear BK261
     clear HB
     have HO242:=n0_
     have HO248:=n1_
     have HO253:=n2_
     have HO260:=n3_
     have BK235:=n4_
     have BK236:=n5_
     have BK249:=n6_
     have BK254:=n7_
     have BK261:=n8_
     have HB:=n9_
     clear n0_ n1_ n2_ n3_ n4_ n5_ n6_ n7_ n8_ n9_
     refine start_ (n:=5) (S:=fun w' => w'.cell? ⟨gb254,0,none⟩ = some (.int .i64 t250) ∧ w'.cell? ⟨gb254,1,none⟩ = some (.slice Ao57 t251.length co57) ∧ w'.cell? ⟨gb235,0,none⟩ = some (.int .i64 a0_0) ∧ w'.cell? ⟨gb235,1,none⟩ = some (.slice A0_1 l0_1.length c0_1)) (ds:=[]) #[Z,Z,Z,Z,Z] (by kernel_rfl) rfl rfl ⟨(zm6_ BK254.out 0).trans rfl,(zm6_ BK254.out 1).trans rfl,(zm6_ BK235.out 0).trans rfl,(zm6_ BK235.out 1).trans rfl⟩ (fun hHeld => ?_)
     generalize w74.drew = w75 at HO242 HO248 HO253 HO260 BK235 BK236 BK249 BK254 BK261 HB hHeld ⊢
     refine take_ (i:=0) (N:=some 38) (v:=?_) (a':=?_) #[Y,Z,Z,Z,Z] rfl rfl (by kernel_rfl) (fun _ _ _ h => h) (Or.inl ⟨by rfl,?_⟩) hHeld ?_ ?_
     rotate_left
     ·
      rintro w' ⟨s0,s1,s2,s3⟩
      go_simp
      with_reducible rfl
     rotate_left
     ·
      simp only [Act.put,lA_,lB_,lC_,i64_w,i32_w]
      rfl
     refine take_ (i:=1) (N:=some 39) (v:=?_) (a':=?_) #[Y,Y,Z,Z,Z] rfl rfl (by kernel_rfl) (fun _ _ _ h => h) (Or.inl ⟨by rfl,?_⟩) hHeld ?_ ?_
     rotate_left
     ·
      rintro w' ⟨s0,s1,s2,s3⟩
      go_simp
      with_reducible rfl
     rotate_left
     ·
      simp only [Act.put,lA_,lB_,lC_,i64_w,i32_w]
      rfl
     refine one_ (i:=2) (N:=some 40) #[Y,Y,Y,Z,Z] rfl rfl (by kernel_rfl) (by decide) (fun K hK => ?_)
     refine goes_ Try.func29 (by kernel_rfl) rfl #[.agg #[.int .i64 a0_0,.slice A0_1 l0_1.length c0_1]] (by rfl) rfl rfl (by (try simp only [zp1_,zp2_,zp3_]);first|done|rfl|(simp only [zp4_,zp5_];rfl)) ?_
     with_reducible refine (laws_toTable.calls k a0_0 _ _ l0_1 t263 t264 _ ?side1 ?side2 A27.out).mono ?_
     (case side1 => repeat (first|exact (Kd.C_below HR0_1.out HB.out)|(with_reducible refine Kd.C_alloc ?_ _)|(with_reducible refine Kd.C_drewN ?_ _)|(with_reducible refine Kd.C_drew ?_)))
     (case side2 => exact HC0_1.out)
     rintro e w76 ⟨v265,rfl,ho0,hb⟩
     refine ⟨_,rfl,?_⟩
     have n0_:=zm0_ (Kd.R_elder' (by (with_reducible repeat (first|apply k1_|apply k2_|apply k3_));exact HO242.out) (Kd.R_base ho0) hb)
     have n1_:=zm0_ (Kd.V_elder' (by (with_reducible repeat (first|apply zn5_|apply zn6_|apply zn7_));exact HO248.out) (Kd.R_base ho0) hb)
     have n2_:=zm0_ (Kd.R_elder' (by (with_reducible repeat (first|apply k1_|apply k2_|apply k3_));exact HO253.out) (Kd.R_base ho0) hb)
     have n3_:=zm0_ (Kd.R_elder' (by (with_reducible repeat (first|apply k1_|apply k2_|apply k3_));exact HO260.out) (Kd.R_base ho0) hb)
     have n4_:=zm0_ (zo1_ (Kd.R_new' (Kd.R_new' (Kd.R_new' ho0 (Kd.R_lt (by (with_reducible repeat (first|apply k1_|apply k2_|apply k3_));exact HO242.out))) (Kd.R_lt (by (with_reducible repeat (first|apply k1_|apply k2_|apply k3_));exact HO253.out))) (Kd.R_lt (by (with_reducible repeat (first|apply k1_|apply k2_|apply k3_));exact HO260.out))) (zn9_ (by repeat (first|(with_reducible first|exact HB.out|apply zm3_|apply zm2_|apply zm4_|refine zm1_ ?_ GE235.out|refine zm1_ ?_ GE236.out|refine zm1_ ?_ GE249.out|refine zm1_ ?_ GE254.out|refine zm1_ ?_ GE261.out)|exact HB.out))))
     have n5_:=zm0_ (zm5_ (by (with_reducible repeat (first|refine k6_ ?_ _|refine k7_ ?_|refine k5_ ?_ _));exact BK235.out) hb)
     have n6_:=zm0_ (zm5_ (by (with_reducible repeat (first|refine k6_ ?_ _|refine k7_ ?_|refine k5_ ?_ _));exact BK236.out) hb)
     have n7_:=zm0_ (zm5_ (by (with_reducible repeat (first|refine k6_ ?_ _|refine k7_ ?_|refine k5_ ?_ _));exact BK249.out) hb)
     have n8_:=zm0_ (zm5_ (by (with_reducible repeat (first|refine k6_ ?_ _|refine k7_ ?_|refine k5_ ?_ _));exact BK254.out) hb)
     have n9_:=zm0_ (zm5_ (by (with_reducible repeat (first|refine k6_ ?_ _|refine k7_ ?_|refine k5_ ?_ _));exact BK261.out) hb)
     have n10_:=zm0_ (zn8_ (by repeat (first|(with_reducible first|exact HB.out|apply zm3_|apply zm2_|apply zm4_|refine zm1_ ?_ GE235.out|refine zm1_ ?_ GE236.out|refine zm1_ ?_ GE249.out|refine zm1_ ?_ GE254.out|refine zm1_ ?_ GE261.out)|exact HB.out)) hb)
     clear HO242
     clear HO248
     clear HO253
     clear HO260
     clear BK235
     clear BK236
     clear BK249
     clear BK254
     clear BK261
     clear HB
     have HO242:=n0_
     have HO248:=n1_
     have HO253:=n2_
     have HO260:=n3_
     have HO266:=n4_
     have BK235:=n5_
     have BK236:=n6_
     have BK249:=n7_
     have BK254:=n8_
     have BK261:=n9_
     have HB:=n10_
     clear n0_ n1_ n2_ n3_ n4_ n5_ n6_ n7_ n8_ n9_ n10_
     (try clear hb)
     (try clear hb2)
     (try clear hk)
     (try clear hi)
     (try clear ho0)
     obtain ⟨Ao77,co77,eo77⟩:=Kd.R_slice HO266.out
     (first|subst eo77|(injection eo77 with f1_ f2_ f3_;have f4_:=f1_.symm;have f5_:=f3_.symm;clear f1_ f2_ f3_;subst f4_;subst f5_))
     refine hK.out _ _ ⟨(zm6_ BK254.out 0).trans rfl,(zm6_ BK254.out 1).trans rfl,(zm6_ BK235.out 0).trans rfl,(zm6_ BK235.out 1).trans rfl⟩ (fun hHeld => ?_)
     clear hK K
     refine norm_ (a':=?_) ?_ ?_
     rotate_left
     ·
      show Act.put _ (some 40) _ = _
      simp only [Act.put,lA_,lB_,lC_,i64_w,i32_w]
      rfl
     refine one_ (i:=3) (N:=some 41) #[Y,Y,Y,Y,Z] rfl rfl (by kernel_rfl) (by decide) (fun K hK => ?_)
     refine goes_ Try.func30 (by kernel_rfl) rfl #[.agg #[.int .i64 t250,.slice Ao57 t251.length co57],.agg #[.int .i64 t263,.slice Ao77 t264.length co77]] (by rfl) rfl rfl (by (try simp only [zp1_,zp2_,zp3_]);first|done|rfl|(simp only [zp4_,zp5_];rfl)) ?_
     with_reducible refine (laws_eqTable.calls k t250 _ _ t251 t263 _ _ t264 true _ ?side1 ?side2 ?side3 ?side4 A28.out).mono ?_
     (case side1 => repeat (first|exact (Kd.R_reads' HO253.out).2.2|(with_reducible refine Kd.C_alloc ?_ _)|(with_reducible refine Kd.C_drewN ?_ _)|(with_reducible refine Kd.C_drew ?_)))
     (case side2 => exact (Kd.R_reads' HO253.out).2.1)
     (case side3 => repeat (first|exact (Kd.R_reads' HO266.out).2.2|(with_reducible refine Kd.C_alloc ?_ _)|(with_reducible refine Kd.C_drewN ?_ _)|(with_reducible refine Kd.C_drew ?_)))
     (case side4 => exact (Kd.R_reads' HO266.out).2.1)
     rintro e w78 ⟨rfl,hb⟩
     refine ⟨_,rfl,?_⟩
     have n0_:=zm0_ (zm8_ (by (with_reducible repeat (first|apply k1_|apply k2_|apply k3_));exact HO242.out) hb)
     have n1_:=zm0_ (zm9_ (by (with_reducible repeat (first|apply zn5_|apply zn6_|apply zn7_));exact HO248.out) hb)
     have n2_:=zm0_ (zm8_ (by (with_reducible repeat (first|apply k1_|apply k2_|apply k3_));exact HO253.out) hb)
     have n3_:=zm0_ (zm8_ (by (with_reducible repeat (first|apply k1_|apply k2_|apply k3_));exact HO260.out) hb)
     have n4_:=zm0_ (zm8_ (by (with_reducible repeat (first|apply k1_|apply k2_|apply k3_));exact HO266.out) hb)
     have n5_:=zm0_ (zm5_ (by (with_reducible repeat (first|refine k6_ ?_ _|refine k7_ ?_|refine k5_ ?_ _));exact BK235.out) hb)
     have n6_:=zm0_ (zm5_ (by (with_reducible repeat (first|refine k6_ ?_ _|refine k7_ ?_|refine k5_ ?_ _));exact BK236.out) hb)
     have n7_:=zm0_ (zm5_ (by (with_reducible repeat (first|refine k6_ ?_ _|refine k7_ ?_|refine k5_ ?_ _));exact BK249.out) hb)
     have n8_:=zm0_ (zm5_ (by (with_reducible repeat (first|refine k6_ ?_ _|refine k7_ ?_|refine k5_ ?_ _));exact BK254.out) hb)
     have n9_:=zm0_ (zm5_ (by (with_reducible repeat (first|refine k6_ ?_ _|refine k7_ ?_|refine k5_ ?_ _));exact BK261.out) hb)
     have n10_:=zm0_ (zn8_ (by repeat (first|(with_reducible first|exact HB.out|apply zm3_|apply zm2_|apply zm4_|refine zm1_ ?_ GE235.out|refine zm1_ ?_ GE236.out|refine zm1_ ?_ GE249.out|refine zm1_ ?_ GE254.out|refine zm1_ ?_ GE261.out)|exact HB.out)) hb)
     clear HO242
     clear HO248
     clear HO253
     clear HO260
     clear HO266
     clear BK235
     clear BK236
     clear BK249
     clear BK254
     clear BK261
     clear HB
     have HO242:=n0_
     have HO248:=n1_
     have HO253:=n2_
     have HO260:=n3_
     have HO266:=n4_
     have BK235:=n5_
     have BK236:=n6_
     have BK249:=n7_
     have BK254:=n8_
     have BK261:=n9_
     have HB:=n10_
     clear n0_ n1_ n2_ n3_ n4_ n5_ n6_ n7_ n8_ n9_ n10_
     (try clear hb)
     (try clear hb2)
     (try clear hk)
     (try clear hi)
     refine hK.out _ _ ⟨(zm6_ BK254.out 0).trans rfl,(zm6_ BK254.out 1).trans rfl,(zm6_ BK235.out 0).trans rfl,(zm6_ BK235.out 1).trans rfl⟩ (fun hHeld => ?_)
     clear hK K
     refine norm_ (a':=?_) ?_ ?_
     rotate_left
     ·
      show Act.put _ (some 41) _ = _
      simp only [Act.put,lA_,lB_,lC_,i64_w,i32_w]
      rfl
     refine pure_ (i:=4) (N:=some 42) (v:=?_) (a':=?_) #[Y,Y,Y,Y,Y] rfl rfl (by kernel_rfl) (fun _ _ _ h => h) (Or.inl ⟨by rfl,?_⟩) ?_ ?_
     rotate_left
     ·
      intro w'
      go_simp
      with_reducible rfl
     rotate_left
     ·
      simp only [Act.put,lA_,lB_,lC_,i64_w,i32_w]
      rfl
     refine done_ (by kernel_rfl) ?_
     have hcz79_0 : w78.cell? ⟨gb254,0,none⟩ = some (.int .i64 t250):=(zm6_ BK254.out 0).trans rfl
     have hcz79_1 : w78.cell? ⟨gb254,1,none⟩ = some (.slice Ao57 t251.length co57):=(zm6_ BK254.out 1).trans rfl
     have hfz79_0:=zm7_ BK254.out 0
     have hfz79_1:=zm7_ BK254.out 1
     go_upto_region 17 with (first|((with_reducible refine gate_callee (f:=31) rfl ?_);refine goesL_ (some 45) rfl rfl Try.func31 (by kernel_rfl) rfl #[.agg #[.int .i64 t250,.slice Ao57 t251.length co57],.int .i64 1] rfl (by (try simp only [zp1_,zp2_,zp3_]);first|done|rfl|(simp only [zp4_,zp5_];rfl)) ?_;(with_reducible refine (laws_markTable.calls k t250 (fun k_ => some k_ = (.slice Ao57 t251.length co57 : Value).ownBlock) (.slice Ao57 t251.length co57) t251 1 t268 t269 w _ ?side1 ?side2 A30.out).mono ?_);(case side1 => repeat (first|(with_reducible first|exact HB.out|apply zm3_|apply zm2_|apply zm4_|refine zm1_ ?_ GE235.out|refine zm1_ ?_ GE236.out|refine zm1_ ?_ GE249.out|refine zm1_ ?_ GE254.out|refine zm1_ ?_ GE261.out)|exact HB.out));(case side2 => exact Kd.R_tight rfl HO253.out);rintro e w80 ⟨rfl,hy0,hb,hkp⟩;refine ⟨_,rfl,?_⟩;have n0_:=zm0_ (blk_kept (by (with_reducible repeat (first|refine k6_ ?_ _|refine k7_ ?_|refine k5_ ?_ _));exact BK235.out) hkp (fun hs_ => (fun e_ => (Kd.R_ne HO253.out BK235.out (by decide)) e_) hs_));have n1_:=zm0_ (blk_kept (by (with_reducible repeat (first|refine k6_ ?_ _|refine k7_ ?_|refine k5_ ?_ _));exact BK236.out) hkp (fun hs_ => (fun e_ => (Kd.R_ne HO253.out BK236.out (by decide)) e_) hs_));have n2_:=zm0_ (zo2_ (ok':=fun k_ => some k_ ≠ (.slice Ao57 t251.length co57 : Value).ownBlock ∧ some k_ ≠ (.slice Ao65 t258.length co65 : Value).ownBlock ∧ some k_ ≠ (.slice Ao77 t264.length co77 : Value).ownBlock) (Kd.R_keptB (HO242.out) hkp (fun k_ hk_ hs_ => absurd hs_ ((by first|exact hk_.1.1|(have hq_:=hk_;simp only [ne_eq] at hq_ ⊢;simp only [hq_,k8_,and_self]))))) (fun k_ hk_ => ⟨(by first|exact hk_.1.1.1|(have hq_:=hk_.1;simp only [ne_eq] at hq_ ⊢;simp only [hq_,k8_,and_self])),(by first|exact hk_.1.1.2|(have hq_:=hk_.1;simp only [ne_eq] at hq_ ⊢;simp only [hq_,k8_,and_self])),(by first|exact hk_.1.2|(have hq_:=hk_.1;simp only [ne_eq] at hq_ ⊢;simp only [hq_,k8_,and_self]))⟩));have n3_:=zm0_ (Kd.V_mono (ok':=fun k_ => some k_ ≠ (v241 : Value).ownBlock ∧ some k_ ≠ (.slice Ao57 t251.length co57 : Value).ownBlock ∧ some k_ ≠ (.slice Ao65 t258.length co65 : Value).ownBlock ∧ some k_ ≠ (.slice Ao77 t264.length co77 : Value).ownBlock ∧ k_ ≠ gb235 ∧ k_ ≠ gb236 ∧ k_ ≠ gb249 ∧ k_ ≠ gb254 ∧ k_ ≠ gb261) (Kd.V_keptB (HO248.out) hkp (fun k_ hk_ hs_ => absurd hs_ ((by first|exact hk_.1.2.1|(have hq_:=hk_;simp only [ne_eq] at hq_ ⊢;simp only [hq_,k8_,and_self]))))) (fun k_ hk_ => ⟨(by first|exact hk_.1.1.1|(have hq_:=hk_.1;simp only [ne_eq] at hq_ ⊢;simp only [hq_,k8_,and_self])),(by first|exact hk_.1.1.2.1|(have hq_:=hk_.1;simp only [ne_eq] at hq_ ⊢;simp only [hq_,k8_,and_self])),(by first|exact hk_.1.1.2.2.1|(have hq_:=hk_.1;simp only [ne_eq] at hq_ ⊢;simp only [hq_,k8_,and_self])),(by first|exact hk_.1.2|(have hq_:=hk_.1;simp only [ne_eq] at hq_ ⊢;simp only [hq_,k8_,and_self])),(by first|exact hk_.1.1.2.2.2.1|(have hq_:=hk_.1;simp only [ne_eq] at hq_ ⊢;simp only [hq_,k8_,and_self])),(by first|exact hk_.1.1.2.2.2.2.1|(have hq_:=hk_.1;simp only [ne_eq] at hq_ ⊢;simp only [hq_,k8_,and_self])),(by first|exact hk_.1.1.2.2.2.2.2.1|(have hq_:=hk_.1;simp only [ne_eq] at hq_ ⊢;simp only [hq_,k8_,and_self])),(by first|exact hk_.1.1.2.2.2.2.2.2.1|(have hq_:=hk_.1;simp only [ne_eq] at hq_ ⊢;simp only [hq_,k8_,and_self])),(by first|exact hk_.1.1.2.2.2.2.2.2.2|(have hq_:=hk_.1;simp only [ne_eq] at hq_ ⊢;simp only [hq_,k8_,and_self]))⟩));have n4_:=zm0_ (blk_kept (by (with_reducible repeat (first|refine k6_ ?_ _|refine k7_ ?_|refine k5_ ?_ _));exact BK249.out) hkp (fun hs_ => (fun e_ => (Kd.R_ne HO253.out BK249.out (by decide)) e_) hs_));have n5_:=zm0_ (Kd.R_reok rfl hy0 (fun k_ e_ => HO253.out.1 k_ e_));have n6_:=zm0_ (blk_kept (by (with_reducible repeat (first|refine k6_ ?_ _|refine k7_ ?_|refine k5_ ?_ _));exact BK254.out) hkp (fun hs_ => (fun e_ => (Kd.R_ne HO253.out BK254.out (by decide)) e_) hs_));have n7_:=zm0_ (zo2_ (ok':=fun k_ => some k_ ≠ (v241 : Value).ownBlock ∧ some k_ ≠ (.slice Ao57 t251.length co57 : Value).ownBlock ∧ some k_ ≠ (.slice Ao77 t264.length co77 : Value).ownBlock) (Kd.R_keptB (HO260.out) hkp (fun k_ hk_ hs_ => absurd hs_ ((by first|exact hk_.1.2|(have hq_:=hk_;simp only [ne_eq] at hq_ ⊢;simp only [hq_,k8_,and_self]))))) (fun k_ hk_ => ⟨(by first|exact hk_.1.1.1|(have hq_:=hk_.1;simp only [ne_eq] at hq_ ⊢;simp only [hq_,k8_,and_self])),(by first|exact hk_.1.1.2|(have hq_:=hk_.1;simp only [ne_eq] at hq_ ⊢;simp only [hq_,k8_,and_self])),(by first|exact hk_.1.2|(have hq_:=hk_.1;simp only [ne_eq] at hq_ ⊢;simp only [hq_,k8_,and_self]))⟩));have n8_:=zm0_ (blk_kept (by (with_reducible repeat (first|refine k6_ ?_ _|refine k7_ ?_|refine k5_ ?_ _));exact BK261.out) hkp (fun hs_ => (fun e_ => (Kd.R_ne HO253.out BK261.out (by decide)) e_) hs_));have n9_:=zm0_ (zo2_ (ok':=fun k_ => some k_ ≠ (v241 : Value).ownBlock ∧ some k_ ≠ (.slice Ao57 t251.length co57 : Value).ownBlock ∧ some k_ ≠ (.slice Ao65 t258.length co65 : Value).ownBlock) (Kd.R_keptB (HO266.out) hkp (fun k_ hk_ hs_ => absurd hs_ ((by first|exact hk_.1.2|(have hq_:=hk_;simp only [ne_eq] at hq_ ⊢;simp only [hq_,k8_,and_self]))))) (fun k_ hk_ => ⟨(by first|exact hk_.1.1.1.2|(have hq_:=hk_.1;simp only [ne_eq] at hq_ ⊢;simp only [hq_,k8_,and_self])),(by first|exact hk_.1.1.2|(have hq_:=hk_.1;simp only [ne_eq] at hq_ ⊢;simp only [hq_,k8_,and_self])),(by first|exact hk_.1.2|(have hq_:=hk_.1;simp only [ne_eq] at hq_ ⊢;simp only [hq_,k8_,and_self]))⟩));have n10_:=zm0_ (hb);clear BK235;clear BK236;clear HO242;clear HO248;clear BK249;clear HO253;clear BK254;clear HO260;clear BK261;clear HO266;clear HB;have BK235:=n0_;have BK236:=n1_;have HO242:=n2_;have HO248:=n3_;have BK249:=n4_;have HO253:=n5_;have BK254:=n6_;have HO260:=n7_;have BK261:=n8_;have HO266:=n9_;have HB:=n10_;clear n0_ n1_ n2_ n3_ n4_ n5_ n6_ n7_ n8_ n9_ n10_;(try clear hb);(try clear hkp);(try clear hy0)))
     (try simp only [Act.put,lA_,lB_,lC_])
     go_cut [53] (fun v53 wc => ∃ (kq : Nat) (x53_30 : Bool),v53 = .bool x53_30 ∧ Aside0 (laws_FnExactAddField.j0 kq x53_30 a0_0 l0_1 a1_0 a1_1 t245 t246 t257 t258 = some r) ∧ Aside0 (kq ≤ k) ∧ Aside0 (Kd.V k33 33 wc w.heap.size (fun k_ => some k_ ≠ ((.slice Ao57 t251.length co57) : Value).ownBlock ∧ some k_ ≠ ((.slice Ao65 t258.length co65) : Value).ownBlock ∧ k_ ≠ gb235 ∧ k_ ≠ gb236 ∧ k_ ≠ gb249 ∧ k_ ≠ gb254 ∧ k_ ≠ gb261) (.slice Ao47 t246.length co47) t246) ∧ Aside0 (Kd.R k33 33 wc w.heap.size (fun k_ => some k_ ≠ ((.slice Ao65 t258.length co65) : Value).ownBlock) (.slice Ao57 t251.length co57) t269) ∧ Aside0 (Kd.R k33 33 wc w.heap.size (fun k_ => some k_ ≠ ((.slice Ao57 t251.length co57) : Value).ownBlock) (.slice Ao65 t258.length co65) t258) ∧ Aside0 (wc.heap[gb235]? = some (.cells #[.int .i64 a0_0,(.slice A0_1 l0_1.length c0_1)] 47 (0,0))) ∧ Aside0 (wc.heap[gb236]? = some (.cells #[.string a1_0,.string a1_1] 69 (0,0))) ∧ Aside0 (wc.heap[gb249]? = some (.cells #[.int .i64 t245,(.slice Ao47 t246.length co47)] 26 (0,0))) ∧ Aside0 (wc.heap[gb254]? = some (.cells #[.int .i64 t250,(.slice Ao57 t251.length co57)] 26 (0,0))) ∧ Aside0 (wc.heap[gb261]? = some (.cells #[.int .i64 t257,(.slice Ao65 t258.length co65)] 26 (0,0))) ∧ Aside0 (Below w.heap.size w wc))
     case first =>
      have H:=HC31.out
      clear HC31
      by_cases c81 : t268 < 0
      ·
       rw [if_pos c81] at H
       have c81b0 : decide (t268 < 0) = true:=decide_eq_true c81
       clear c81
       (first|rw [c81b0]|(simp only [i64_w,i32_w];rw [c81b0])|rw [c81b1]|skip)
       have H':=zm0_ H
       clear H
       go_wp2
       go_meet
       case rel => exact ⟨_,(true),(by first|rfl|(simp;done)|(simp [*];done)),H',⟨by first|omega|exact Nat.le_refl _⟩,⟨by (with_reducible repeat (first|apply zn5_|apply zn6_|apply zn7_));exact Kd.V_mono HO248.out (fun _ hk => ⟨(by first|exact hk.2.1|(have hq_:=hk;simp only [ne_eq] at hq_ ⊢;simp only [hq_,k8_,and_self])),⟨(by first|exact hk.2.2.1|(have hq_:=hk;simp only [ne_eq] at hq_ ⊢;simp only [hq_,k8_,and_self])),⟨(by first|exact hk.2.2.2.2.1|(have hq_:=hk;simp only [ne_eq] at hq_ ⊢;simp only [hq_,k8_,and_self])),⟨(by first|exact hk.2.2.2.2.2.1|(have hq_:=hk;simp only [ne_eq] at hq_ ⊢;simp only [hq_,k8_,and_self])),⟨(by first|exact hk.2.2.2.2.2.2.1|(have hq_:=hk;simp only [ne_eq] at hq_ ⊢;simp only [hq_,k8_,and_self])),⟨(by first|exact hk.2.2.2.2.2.2.2.1|(have hq_:=hk;simp only [ne_eq] at hq_ ⊢;simp only [hq_,k8_,and_self])),(by first|exact hk.2.2.2.2.2.2.2.2|(have hq_:=hk;simp only [ne_eq] at hq_ ⊢;simp only [hq_,k8_,and_self]))⟩⟩⟩⟩⟩⟩)⟩,⟨by (with_reducible repeat (first|apply k1_|apply k2_|apply k3_));exact zo2_ HO253.out (fun _ hk => (by first|exact hk.1.2|(have hq_:=hk;simp only [ne_eq] at hq_ ⊢;simp only [hq_,k8_,and_self])))⟩,⟨by (with_reducible repeat (first|apply k1_|apply k2_|apply k3_));exact zo2_ HO260.out (fun _ hk => (by first|exact hk.2.1|(have hq_:=hk;simp only [ne_eq] at hq_ ⊢;simp only [hq_,k8_,and_self])))⟩,⟨by (with_reducible repeat (first|refine k6_ ?_ _|refine k7_ ?_|refine k5_ ?_ _));exact BK235.out⟩,⟨by (with_reducible repeat (first|refine k6_ ?_ _|refine k7_ ?_|refine k5_ ?_ _));exact BK236.out⟩,⟨by (with_reducible repeat (first|refine k6_ ?_ _|refine k7_ ?_|refine k5_ ?_ _));exact BK249.out⟩,⟨by (with_reducible repeat (first|refine k6_ ?_ _|refine k7_ ?_|refine k5_ ?_ _));exact BK254.out⟩,⟨by (with_reducible repeat (first|refine k6_ ?_ _|refine k7_ ?_|refine k5_ ?_ _));exact BK261.out⟩,⟨by repeat (first|(with_reducible first|exact HB.out|apply zm3_|apply zm2_|apply zm4_|refine zm1_ ?_ GE235.out|refine zm1_ ?_ GE236.out|refine zm1_ ?_ GE249.out|refine zm1_ ?_ GE254.out|refine zm1_ ?_ GE261.out)|exact HB.out)⟩⟩
      ·
       rw [if_neg c81] at H
       have c81b0 : decide (t268 < 0) = false:=decide_eq_false c81
       clear c81
       (first|rw [c81b0]|(simp only [i64_w,i32_w];rw [c81b0])|rw [c81b1]|skip)
       replace H:=Option.bind_eq_some_iff.mp H
       obtain ⟨t270,A820,H⟩:=H
       replace H : (laws_FnExactAddField.j0 k (!t270) a0_0 l0_1 a1_0 a1_1 t245 t246 t257 t258) = some r:=H
       have A82:=zm0_ A820
       clear A820
       have H':=zm0_ H
       clear H
       have hnb83:=NB261_235.out
       have hnc83:=NB235_261.out
       have hnb84:=NB261_236.out
       have hnc84:=NB236_261.out
       have hnb85:=NB261_249.out
       have hnc85:=NB249_261.out
       have hnb86:=NB261_254.out
       have hnc86:=NB254_261.out
       have hcz87_0 : w80.cell? ⟨gb261,0,none⟩ = some (.int .i64 t257):=(zm6_ BK261.out 0).trans rfl
       have hcz87_1 : w80.cell? ⟨gb261,1,none⟩ = some (.slice Ao65 t258.length co65):=(zm6_ BK261.out 1).trans rfl
       have hfz87_0:=zm7_ BK261.out 0
       have hfz87_1:=zm7_ BK261.out 1
       have hnb88:=NB249_235.out
       have hnc88:=NB235_249.out
       have hnb89:=NB249_236.out
       have hnc89:=NB236_249.out
       have hnb90:=NB249_254.out
       have hnc90:=NB254_249.out
       have hcz91_0 : w80.cell? ⟨gb249,0,none⟩ = some (.int .i64 t245):=(zm6_ BK249.out 0).trans rfl
       have hcz91_1 : w80.cell? ⟨gb249,1,none⟩ = some (.slice Ao47 t246.length co47):=(zm6_ BK249.out 1).trans rfl
       have hfz91_0:=zm7_ BK249.out 0
       have hfz91_1:=zm7_ BK249.out 1
       go_wp2_with (first|(go_at_call 30;(with_reducible refine (laws_eqTable.calls k t257 _ _ t258 t245 _ _ t246 t270 _ ?side1 ?side2 ?side3 ?side4 A82.out).mono ?_);(case side1 => repeat (first|exact (Kd.R_reads' HO260.out).2.2|(with_reducible refine Kd.C_alloc ?_ _)|(with_reducible refine Kd.C_drewN ?_ _)|(with_reducible refine Kd.C_drew ?_)));(case side2 => exact (Kd.R_reads' HO260.out).2.1);(case side3 => repeat (first|exact (Kd.V_reads' HO248.out).2.2|(with_reducible refine Kd.C_alloc ?_ _)|(with_reducible refine Kd.C_drewN ?_ _)|(with_reducible refine Kd.C_drew ?_)));(case side4 => exact (Kd.V_reads' HO248.out).2.1);rintro e w92 ⟨rfl,hb⟩;have n0_:=zm0_ (zm8_ (by (with_reducible repeat (first|apply k1_|apply k2_|apply k3_));exact HO242.out) hb);have n1_:=zm0_ (zm9_ (by (with_reducible repeat (first|apply zn5_|apply zn6_|apply zn7_));exact HO248.out) hb);have n2_:=zm0_ (zm8_ (by (with_reducible repeat (first|apply k1_|apply k2_|apply k3_));exact HO253.out) hb);have n3_:=zm0_ (zm8_ (by (with_reducible repeat (first|apply k1_|apply k2_|apply k3_));exact HO260.out) hb);have n4_:=zm0_ (zm8_ (by (with_reducible repeat (first|apply k1_|apply k2_|apply k3_));exact HO266.out) hb);have n5_:=zm0_ (zm5_ (by (with_reducible repeat (first|refine k6_ ?_ _|refine k7_ ?_|refine k5_ ?_ _));exact BK235.out) hb);have n6_:=zm0_ (zm5_ (by (with_reducible repeat (first|refine k6_ ?_ _|refine k7_ ?_|refine k5_ ?_ _));exact BK236.out) hb);have n7_:=zm0_ (zm5_ (by (with_reducible repeat (first|refine k6_ ?_ _|refine k7_ ?_|refine k5_ ?_ _));exact BK249.out) hb);have n8_:=zm0_ (zm5_ (by (with_reducible repeat (first|refine k6_ ?_ _|refine k7_ ?_|refine k5_ ?_ _));exact BK254.out) hb);have n9_:=zm0_ (zm5_ (by (with_reducible repeat (first|refine k6_ ?_ _|refine k7_ ?_|refine k5_ ?_ _));exact BK261.out) hb);have n10_:=zm0_ (zn8_ (by repeat (first|(with_reducible first|exact HB.out|apply zm3_|apply zm2_|apply zm4_|refine zm1_ ?_ GE235.out|refine zm1_ ?_ GE236.out|refine zm1_ ?_ GE249.out|refine zm1_ ?_ GE254.out|refine zm1_ ?_ GE261.out)|exact HB.out)) hb);clear HO242;clear HO248;clear HO253;clear HO260;clear HO266;clear BK235;clear BK236;clear BK249;clear BK254;clear BK261;clear HB;have HO242:=n0_;have HO248:=n1_;have HO253:=n2_;have HO260:=n3_;have HO266:=n4_;have BK235:=n5_;have BK236:=n6_;have BK249:=n7_;have BK254:=n8_;have BK261:=n9_;have HB:=n10_;clear n0_ n1_ n2_ n3_ n4_ n5_ n6_ n7_ n8_ n9_ n10_;(try clear hb);(try clear hb2);(try clear hk);(try clear hi)))
       go_meet
       case rel => exact ⟨_,(!t270),(by first|rfl|(simp;done)|(simp [*];done)),H',⟨by first|omega|exact Nat.le_refl _⟩,⟨by (with_reducible repeat (first|apply zn5_|apply zn6_|apply zn7_));exact Kd.V_mono HO248.out (fun _ hk => ⟨(by first|exact hk.2.1|(have hq_:=hk;simp only [ne_eq] at hq_ ⊢;simp only [hq_,k8_,and_self])),⟨(by first|exact hk.2.2.1|(have hq_:=hk;simp only [ne_eq] at hq_ ⊢;simp only [hq_,k8_,and_self])),⟨(by first|exact hk.2.2.2.2.1|(have hq_:=hk;simp only [ne_eq] at hq_ ⊢;simp only [hq_,k8_,and_self])),⟨(by first|exact hk.2.2.2.2.2.1|(have hq_:=hk;simp only [ne_eq] at hq_ ⊢;simp only [hq_,k8_,and_self])),⟨(by first|exact hk.2.2.2.2.2.2.1|(have hq_:=hk;simp only [ne_eq] at hq_ ⊢;simp only [hq_,k8_,and_self])),⟨(by first|exact hk.2.2.2.2.2.2.2.1|(have hq_:=hk;simp only [ne_eq] at hq_ ⊢;simp only [hq_,k8_,and_self])),(by first|exact hk.2.2.2.2.2.2.2.2|(have hq_:=hk;simp only [ne_eq] at hq_ ⊢;simp only [hq_,k8_,and_self]))⟩⟩⟩⟩⟩⟩)⟩,⟨by (with_reducible repeat (first|apply k1_|apply k2_|apply k3_));exact zo2_ HO253.out (fun _ hk => (by first|exact hk.1.2|(have hq_:=hk;simp only [ne_eq] at hq_ ⊢;simp only [hq_,k8_,and_self])))⟩,⟨by (with_reducible repeat (first|apply k1_|apply k2_|apply k3_));exact zo2_ HO260.out (fun _ hk => (by first|exact hk.2.1|(have hq_:=hk;simp only [ne_eq] at hq_ ⊢;simp only [hq_,k8_,and_self])))⟩,⟨by (with_reducible repeat (first|refine k6_ ?_ _|refine k7_ ?_|refine k5_ ?_ _));exact BK235.out⟩,⟨by (with_reducible repeat (first|refine k6_ ?_ _|refine k7_ ?_|refine k5_ ?_ _));exact BK236.out⟩,⟨by (with_reducible repeat (first|refine k6_ ?_ _|refine k7_ ?_|refine k5_ ?_ _));exact BK249.out⟩,⟨by (with_reducible repeat (first|refine k6_ ?_ _|refine k7_ ?_|refine k5_ ?_ _));exact BK254.out⟩,⟨by (with_reducible repeat (first|refine k6_ ?_ _|refine k7_ ?_|refine k5_ ?_ _));exact BK261.out⟩,⟨by repeat (first|(with_reducible first|exact HB.out|apply zm3_|apply zm2_|apply zm4_|refine zm1_ ?_ GE235.out|refine zm1_ ?_ GE236.out|refine zm1_ ?_ GE249.out|refine zm1_ ?_ GE254.out|refine zm1_ ?_ GE261.out)|exact HB.out)⟩⟩
     case rest =>
      clear HC31
      try clear c2
      try clear p2
      try clear c3
      try clear c4
      try clear c6
      try clear c7
      try clear c8
      try clear c9
      try clear c29
      try clear c30
      try clear c31
      try clear c47
      try clear c48
      try clear c67
      try clear c68
      try clear c69
      try clear c70
      try clear c72
      try clear c81
      try clear c81b0
      try clear c81b1
      try clear c83
      try clear c84
      try clear c85
      try clear c86
      try clear c88
      try clear c89
      try clear c90
      try clear hcz71_0
      try clear hcz71_1
      try clear hcz73_0
      try clear hcz73_1
      try clear hcz79_0
      try clear hcz79_1
      try clear hcz87_0
      try clear hcz87_1
      try clear hcz91_0
      try clear hcz91_1
      try clear hfz71_0
      try clear hfz71_1
      try clear hfz73_0
      try clear hfz73_1
      try clear hfz79_0
      try clear hfz79_1
      try clear hfz87_0
      try clear hfz87_1
      try clear hfz91_0
      try clear hfz91_1
      obtain ⟨kq,x53_30,rfl,HA,HJ30,HO_250001,HO_255001,HO_262001,BK235,BK236,BK249,BK254,BK261,HB⟩:=hcut
      have hl255001_30:=(Kd.R_reads' HO_255001.out).1
      rw [hl255001_30] at HO_255001
      (try simp only [hl255001_30])
      (try simp only [hl255001_30] at BK235)
      (try simp only [hl255001_30] at BK236)
      (try simp only [hl255001_30] at BK249)
      (try simp only [hl255001_30] at BK254)
      (try simp only [hl255001_30] at BK261)
      (try simp only [hl255001_30] at HO_250001)
      (try simp only [hl255001_30] at HO_262001)
      cases kq with
      | zero => exact absurd HA.out (by simp [laws_FnExactAddField.j0])
      | succ kj30 =>
       have H:=HA.out
       clear HA
       simp only [laws_FnExactAddField.j0] at H
       by_cases c93 : x53_30 = true
       ·
        subst c93
        have H1 : (none) = some r:=by rw [if_pos rfl] at H;exact H
        clear H
        have H:=H1
        clear H1
        exact absurd H (by simp)
       ·
        replace c93:=Bool.eq_false_iff.mpr c93
        subst c93
        have H1 : ((laws_markTable.f kj30 t257 t258 1).bind fun bt271 => ((laws_heldTable.f kj30 t257 bt271.2 1).bind fun t273 => (if t273 < 0 then (none) else (if t273 = bt271.1 then ((laws_toTable.f kj30 a0_0 l0_1).bind fun bt274 => ((laws_toField.f a1_0 a1_1).bind fun bt278 => ((impl_AddField.f kj30 bt274.1 bt274.2 bt278.1 bt278.2).bind fun bt280 => ((laws_eqTable.f kj30 bt280.1 bt280.2 t245 t246).bind fun t285 => (if t285 = true then ((laws_heldTable.f kj30 t257 bt271.2 1).bind fun t286 => (if t286 < 0 then (none) else (if t286 = bt271.1 then (some true) else (none)))) else (none)))))) else (none))))) = some r:=by rw [if_neg (show ¬ (false = true) by decide)] at H;exact H
        clear H
        have H:=H1
        clear H1
        replace H:=Option.bind_eq_some_iff.mp H
        obtain ⟨⟨t271,t272⟩,A940,H⟩:=H
        replace H : ((laws_heldTable.f kj30 t257 t272 1).bind fun t273 => (if t273 < 0 then (none) else (if t273 = t271 then ((laws_toTable.f kj30 a0_0 l0_1).bind fun bt274 => ((laws_toField.f a1_0 a1_1).bind fun bt278 => ((impl_AddField.f kj30 bt274.1 bt274.2 bt278.1 bt278.2).bind fun bt280 => ((laws_eqTable.f kj30 bt280.1 bt280.2 t245 t246).bind fun t285 => (if t285 = true then ((laws_heldTable.f kj30 t257 t272 1).bind fun t286 => (if t286 < 0 then (none) else (if t286 = t271 then (some true) else (none)))) else (none)))))) else (none)))) = some r:=H
        have A94:=zm0_ A940
        clear A940
        replace H:=Option.bind_eq_some_iff.mp H
        obtain ⟨t273,A950,H⟩:=H
        replace H : (if t273 < 0 then (none) else (if t273 = t271 then ((laws_toTable.f kj30 a0_0 l0_1).bind fun bt274 => ((laws_toField.f a1_0 a1_1).bind fun bt278 => ((impl_AddField.f kj30 bt274.1 bt274.2 bt278.1 bt278.2).bind fun bt280 => ((laws_eqTable.f kj30 bt280.1 bt280.2 t245 t246).bind fun t285 => (if t285 = true then ((laws_heldTable.f kj30 t257 t272 1).bind fun t286 => (if t286 < 0 then (none) else (if t286 = t271 then (some true) else (none)))) else (none)))))) else (none))) = some r:=H
        have A95:=zm0_ A950
        clear A950
        by_cases c96 : t273 < 0
        ·
         rw [if_pos c96] at H
         exact absurd H (by simp)
        ·
         rw [if_neg c96] at H
         have c96b0 : decide (t273 < 0) = false:=decide_eq_false c96
         clear c96
         by_cases c97 : t273 = t271
         ·
          rw [if_pos c97] at H
          have c97b0 : (t273 == t271) = true:=beq_iff_eq.mpr c97
          have c97b1 : (t273 != t271) = false:=bne_eq_false_iff_eq.mpr c97
          clear c97
          replace H:=Option.bind_eq_some_iff.mp H
          obtain ⟨⟨t274,t275⟩,A980,H⟩:=H
          replace H : ((laws_toField.f a1_0 a1_1).bind fun bt278 => ((impl_AddField.f kj30 t274 t275 bt278.1 bt278.2).bind fun bt280 => ((laws_eqTable.f kj30 bt280.1 bt280.2 t245 t246).bind fun t285 => (if t285 = true then ((laws_heldTable.f kj30 t257 t272 1).bind fun t286 => (if t286 < 0 then (none) else (if t286 = t271 then (some true) else (none)))) else (none))))) = some r:=H
          have A98:=zm0_ A980
          clear A980
          replace H:=Option.bind_eq_some_iff.mp H
          obtain ⟨⟨t278,t279⟩,A990,H⟩:=H
          replace H : ((impl_AddField.f kj30 t274 t275 t278 t279).bind fun bt280 => ((laws_eqTable.f kj30 bt280.1 bt280.2 t245 t246).bind fun t285 => (if t285 = true then ((laws_heldTable.f kj30 t257 t272 1).bind fun t286 => (if t286 < 0 then (none) else (if t286 = t271 then (some true) else (none)))) else (none)))) = some r:=H
          have A99:=zm0_ A990
          clear A990
          replace H:=Option.bind_eq_some_iff.mp H
          obtain ⟨⟨t280,t281⟩,A1000,H⟩:=H
          replace H : ((laws_eqTable.f kj30 t280 t281 t245 t246).bind fun t285 => (if t285 = true then ((laws_heldTable.f kj30 t257 t272 1).bind fun t286 => (if t286 < 0 then (none) else (if t286 = t271 then (some true) else (none)))) else (none))) = some r:=H
          have A100:=zm0_ A1000
          clear A1000
          replace H:=Option.bind_eq_some_iff.mp H
          obtain ⟨t285,A1010,H⟩:=H
          replace H : (if t285 = true then ((laws_heldTable.f kj30 t257 t272 1).bind fun t286 => (if t286 < 0 then (none) else (if t286 = t271 then (some true) else (none)))) else (none)) = some r:=H
          have A101:=zm0_ A1010
          clear A1010
          by_cases c102 : t285 = true
          ·
           subst c102
           have H1 : ((laws_heldTable.f kj30 t257 t272 1).bind fun t286 => (if t286 < 0 then (none) else (if t286 = t271 then (some true) else (none)))) = some r:=by rw [if_pos rfl] at H;exact H
           clear H
           have H:=H1
           clear H1
           replace H:=Option.bind_eq_some_iff.mp H
           obtain ⟨t286,A1030,H⟩:=H
           replace H : (if t286 < 0 then (none) else (if t286 = t271 then (some true) else (none))) = some r:=H
           have A103:=zm0_ A1030
           clear A1030
           by_cases c104 : t286 < 0
           ·
            rw [if_pos c104] at H
            exact absurd H (by simp)
           ·
            rw [if_neg c104] at H
            have c104b0 : decide (t286 < 0) = false:=decide_eq_false c104
            clear c104
            by_cases c105 : t286 = t271
            ·
             rw [if_pos c105] at H
             have c105b0 : (t286 == t271) = true:=beq_iff_eq.mpr c105
             have c105b1 : (t286 != t271) = false:=bne_eq_false_iff_eq.mpr c105
             clear c105
             obtain rfl:=Option.some.inj H
             have hnb106:=NB261_235.out
             have hnc106:=NB235_261.out
             have hnb107:=NB261_236.out
             have hnc107:=NB236_261.out
             have hnb108:=NB261_249.out
             have hnc108:=NB249_261.out
             have hnb109:=NB261_254.out
             have hnc109:=NB254_261.out
             have hcz110_0 : wc.cell? ⟨gb261,0,none⟩ = some (.int .i64 t257):=(zm6_ BK261.out 0).trans rfl
             have hcz110_1 : wc.cell? ⟨gb261,1,none⟩ = some (.slice Ao65 t258.length co65):=(zm6_ BK261.out 1).trans rfl
             have hfz110_0:=zm7_ BK261.out 0
             have hfz110_1:=zm7_ BK261.out 1
             try go_wp2_with (first|((with_reducible refine gate_callee (f:=31) rfl ?_);refine goesL_ (some 56) rfl rfl Try.func31 (by kernel_rfl) rfl #[.agg #[.int .i64 t257,.slice Ao65 t258.length co65],.int .i64 1] rfl (by (try simp only [zp1_,zp2_,zp3_]);first|done|rfl|(simp only [zp4_,zp5_];rfl)) ?_;(with_reducible refine (laws_markTable.calls kj30 t257 (fun k_ => some k_ = (.slice Ao65 t258.length co65 : Value).ownBlock) (.slice Ao65 t258.length co65) t258 1 t271 t272 w _ ?side1 ?side2 A94.out).mono ?_);(case side1 => repeat (first|(with_reducible first|exact HB.out|apply zm3_|apply zm2_|apply zm4_|refine zm1_ ?_ GE235.out|refine zm1_ ?_ GE236.out|refine zm1_ ?_ GE249.out|refine zm1_ ?_ GE254.out|refine zm1_ ?_ GE261.out)|exact HB.out));(case side2 => exact Kd.R_tight rfl HO_262001.out);rintro e w111 ⟨rfl,hy0,hb,hkp⟩;refine ⟨_,rfl,?_⟩;have n0_:=zm0_ (Kd.V_mono (ok':=fun k_ => some k_ ≠ (.slice Ao57 t269.length co57 : Value).ownBlock ∧ some k_ ≠ (.slice Ao65 t258.length co65 : Value).ownBlock ∧ k_ ≠ gb235 ∧ k_ ≠ gb236 ∧ k_ ≠ gb249 ∧ k_ ≠ gb254 ∧ k_ ≠ gb261) (Kd.V_keptB (HO_250001.out) hkp (fun k_ hk_ hs_ => absurd hs_ ((by first|exact hk_.2.1|(have hq_:=hk_;simp only [ne_eq] at hq_ ⊢;simp only [hq_,k8_,and_self]))))) (fun k_ hk_ => ⟨(by first|exact hk_.1.1|(have hq_:=hk_.1;simp only [ne_eq] at hq_ ⊢;simp only [hq_,k8_,and_self])),(by first|exact hk_.1.2.1|(have hq_:=hk_.1;simp only [ne_eq] at hq_ ⊢;simp only [hq_,k8_,and_self])),(by first|exact hk_.1.2.2.1|(have hq_:=hk_.1;simp only [ne_eq] at hq_ ⊢;simp only [hq_,k8_,and_self])),(by first|exact hk_.1.2.2.2.1|(have hq_:=hk_.1;simp only [ne_eq] at hq_ ⊢;simp only [hq_,k8_,and_self])),(by first|exact hk_.1.2.2.2.2.1|(have hq_:=hk_.1;simp only [ne_eq] at hq_ ⊢;simp only [hq_,k8_,and_self])),(by first|exact hk_.1.2.2.2.2.2.1|(have hq_:=hk_.1;simp only [ne_eq] at hq_ ⊢;simp only [hq_,k8_,and_self])),(by first|exact hk_.1.2.2.2.2.2.2|(have hq_:=hk_.1;simp only [ne_eq] at hq_ ⊢;simp only [hq_,k8_,and_self]))⟩));have n1_:=zm0_ (zo2_ (ok':=fun k_ => some k_ ≠ (.slice Ao65 t258.length co65 : Value).ownBlock) (Kd.R_keptB (HO_255001.out) hkp (fun k_ hk_ hs_ => absurd hs_ (hk_))) (fun k_ hk_ => hk_.1));have n2_:=zm0_ (Kd.R_reok rfl hy0 (fun k_ e_ => HO_262001.out.1 k_ e_));have n3_:=zm0_ (blk_kept (by (with_reducible repeat (first|refine k6_ ?_ _|refine k7_ ?_|refine k5_ ?_ _));exact BK235.out) hkp (fun hs_ => (fun e_ => (Kd.R_ne HO_262001.out BK235.out (by decide)) e_) hs_));have n4_:=zm0_ (blk_kept (by (with_reducible repeat (first|refine k6_ ?_ _|refine k7_ ?_|refine k5_ ?_ _));exact BK236.out) hkp (fun hs_ => (fun e_ => (Kd.R_ne HO_262001.out BK236.out (by decide)) e_) hs_));have n5_:=zm0_ (blk_kept (by (with_reducible repeat (first|refine k6_ ?_ _|refine k7_ ?_|refine k5_ ?_ _));exact BK249.out) hkp (fun hs_ => (fun e_ => (Kd.R_ne HO_262001.out BK249.out (by decide)) e_) hs_));have n6_:=zm0_ (blk_kept (by (with_reducible repeat (first|refine k6_ ?_ _|refine k7_ ?_|refine k5_ ?_ _));exact BK254.out) hkp (fun hs_ => (fun e_ => (Kd.R_ne HO_262001.out BK254.out (by decide)) e_) hs_));have n7_:=zm0_ (blk_kept (by (with_reducible repeat (first|refine k6_ ?_ _|refine k7_ ?_|refine k5_ ?_ _));exact BK261.out) hkp (fun hs_ => (fun e_ => (Kd.R_ne HO_262001.out BK261.out (by decide)) e_) hs_));have n8_:=zm0_ (hb);clear HO_250001;clear HO_255001;clear HO_262001;clear BK235;clear BK236;clear BK249;clear BK254;clear BK261;clear HB;have HO_250001:=n0_;have HO_255001:=n1_;have HO_262001:=n2_;have BK235:=n3_;have BK236:=n4_;have BK249:=n5_;have BK254:=n6_;have BK261:=n7_;have HB:=n8_;clear n0_ n1_ n2_ n3_ n4_ n5_ n6_ n7_ n8_;(try clear hb);(try clear hkp);(try clear hy0);have hcz112_0 : w111.cell? ⟨gb261,0,none⟩ = some (.int .i64 t257):=(zm6_ BK261.out 0).trans rfl;have hcz112_1 : w111.cell? ⟨gb261,1,none⟩ = some (.slice Ao65 t258.length co65):=(zm6_ BK261.out 1).trans rfl;have hfz112_0:=zm7_ BK261.out 0;have hfz112_1:=zm7_ BK261.out 1)|((with_reducible refine gate_callee (f:=32) rfl ?_);refine goesL_ (some 59) rfl rfl Try.func32 (by kernel_rfl) rfl #[.agg #[.int .i64 t257,.slice Ao65 t272.length co65],.int .i64 1] rfl (by (try simp only [zp1_,zp2_,zp3_]);first|done|(rw [show t272.length = t258.length from (Kd.R_reads' HO_262001.out).1.symm] <;> rfl)|rfl|(simp only [zp4_,zp5_];rfl)) ?_;(with_reducible refine (laws_heldTable.calls kj30 t257 _ _ t272 1 t273 _ ?side1 ?side2 A95.out).mono ?_);(case side1 => repeat (first|exact (Kd.R_reads' HO_262001.out).2.2|(with_reducible refine Kd.C_alloc ?_ _)|(with_reducible refine Kd.C_drewN ?_ _)|(with_reducible refine Kd.C_drew ?_)));(case side2 => rw [show t272.length = t258.length from (Kd.R_reads' HO_262001.out).1.symm];exact (Kd.R_reads' HO_262001.out).2.1);rintro e w113 ⟨rfl,hb⟩;refine ⟨_,rfl,?_⟩;have n0_:=zm0_ (zm9_ (by (with_reducible repeat (first|apply zn5_|apply zn6_|apply zn7_));exact HO_250001.out) hb);have n1_:=zm0_ (zm8_ (by (with_reducible repeat (first|apply k1_|apply k2_|apply k3_));exact HO_255001.out) hb);have n2_:=zm0_ (zm8_ (by (with_reducible repeat (first|apply k1_|apply k2_|apply k3_));exact HO_262001.out) hb);have n3_:=zm0_ (zm5_ (by (with_reducible repeat (first|refine k6_ ?_ _|refine k7_ ?_|refine k5_ ?_ _));exact BK235.out) hb);have n4_:=zm0_ (zm5_ (by (with_reducible repeat (first|refine k6_ ?_ _|refine k7_ ?_|refine k5_ ?_ _));exact BK236.out) hb);have n5_:=zm0_ (zm5_ (by (with_reducible repeat (first|refine k6_ ?_ _|refine k7_ ?_|refine k5_ ?_ _));exact BK249.out) hb);have n6_:=zm0_ (zm5_ (by (with_reducible repeat (first|refine k6_ ?_ _|refine k7_ ?_|refine k5_ ?_ _));exact BK254.out) hb);have n7_:=zm0_ (zm5_ (by (with_reducible repeat (first|refine k6_ ?_ _|refine k7_ ?_|refine k5_ ?_ _));exact BK261.out) hb);have n8_:=zm0_ (zn8_ (by repeat (first|(with_reducible first|exact HB.out|apply zm3_|apply zm2_|apply zm4_|refine zm1_ ?_ GE235.out|refine zm1_ ?_ GE236.out|refine zm1_ ?_ GE249.out|refine zm1_ ?_ GE254.out|refine zm1_ ?_ GE261.out)|exact HB.out)) hb);clear HO_250001;clear HO_255001;clear HO_262001;clear BK235;clear BK236;clear BK249;clear BK254;clear BK261;clear HB;have HO_250001:=n0_;have HO_255001:=n1_;have HO_262001:=n2_;have BK235:=n3_;have BK236:=n4_;have BK249:=n5_;have BK254:=n6_;have BK261:=n7_;have HB:=n8_;clear n0_ n1_ n2_ n3_ n4_ n5_ n6_ n7_ n8_;(try clear hb);(try clear hb2);(try clear hk);(try clear hi)))
             have n0_:=zm0_ (zn7_ HO_250001.out)
             have n1_:=zm0_ (k3_ HO_255001.out)
             have n2_:=zm0_ (k3_ HO_262001.out)
             have n3_:=zm0_ (k7_ BK235.out)
             have n4_:=zm0_ (k7_ BK236.out)
             have n5_:=zm0_ (k7_ BK249.out)
             have n6_:=zm0_ (k7_ BK254.out)
             have n7_:=zm0_ (k7_ BK261.out)
             have n8_:=zm0_ (zm4_ HB.out)
             clear HO_250001
             clear HO_255001
             clear HO_262001
             clear BK235
             clear BK236
             clear BK249
             clear BK254
             clear BK261
             clear HB
             have HO_250001:=n0_
             have HO_255001:=n1_
             have HO_262001:=n2_
             have BK235:=n3_
             have BK236:=n4_
             have BK249:=n5_
             have BK254:=n6_
             have BK261:=n7_
             have HB:=n8_
             clear n0_ n1_ n2_ n3_ n4_ n5_ n6_ n7_ n8_
             refine start_ (n:=7) (S:=fun w' => w'.cell? ⟨gb235,0,none⟩ = some (.int .i64 a0_0) ∧ w'.cell? ⟨gb235,1,none⟩ = some (.slice A0_1 l0_1.length c0_1) ∧ w'.cell? ⟨gb236,0,none⟩ = some (.string a1_0) ∧ w'.cell? ⟨gb236,1,none⟩ = some (.string a1_1)) (ds:=[]) #[Z,Z,Z,Z,Z,Z,Z] (by kernel_rfl) rfl rfl ⟨(zm6_ BK235.out 0).trans rfl,(zm6_ BK235.out 1).trans rfl,(zm6_ BK236.out 0).trans rfl,(zm6_ BK236.out 1).trans rfl⟩ (fun hHeld => ?_)
             generalize w113.drew = w114 at HO_250001 HO_255001 HO_262001 BK235 BK236 BK249 BK254 BK261 HB hHeld ⊢
             refine take_ (i:=0) (N:=some 65) (v:=?_) (a':=?_) #[Y,Z,Z,Z,Z,Z,Z] rfl rfl (by kernel_rfl) (fun _ _ _ h => h) (Or.inl ⟨by rfl,?_⟩) hHeld ?_ ?_
             rotate_left
             ·
              rintro w' ⟨s0,s1,s2,s3⟩
              go_simp
              with_reducible rfl
             rotate_left
             ·
              simp only [Act.put,lA_,lB_,lC_,i64_w,i32_w]
              rfl
             refine take_ (i:=2) (N:=some 67) (v:=?_) (a':=?_) #[Y,Z,Y,Z,Z,Z,Z] rfl rfl (by kernel_rfl) (fun _ _ _ h => h) (Or.inl ⟨by rfl,?_⟩) hHeld ?_ ?_
             rotate_left
             ·
              rintro w' ⟨s0,s1,s2,s3⟩
              go_simp
              with_reducible rfl
             rotate_left
             ·
              simp only [Act.put,lA_,lB_,lC_,i64_w,i32_w]
              rfl
             refine join_ (σ:=Value × Value × Nat) 1 #[Y,Y,Y,Y,Y,Y,Z] (fun s_ => [(66,.agg #[.int .i64 t274,s_.1]),(68,.agg #[.string t278,.string t279]),(69,.agg #[.int .i64 t280,s_.2.1]),(12,.pointer (some ⟨s_.2.2,0,none⟩))]) (fun s_ w' => (w'.cell? ⟨gb235,0,none⟩ = some (.int .i64 a0_0) ∧ w'.cell? ⟨gb235,1,none⟩ = some (.slice A0_1 l0_1.length c0_1) ∧ w'.cell? ⟨gb236,0,none⟩ = some (.string a1_0) ∧ w'.cell? ⟨gb236,1,none⟩ = some (.string a1_1)) ∧ (Kd.R k33 33 w' w.heap.size (fun k_ => some k_ ≠ (s_.2.1 : Value).ownBlock ∧ some k_ ≠ (.slice Ao57 t269.length co57 : Value).ownBlock ∧ some k_ ≠ (.slice Ao65 t258.length co65 : Value).ownBlock) s_.1 t275) ∧ (Kd.R k33 33 w' w.heap.size (fun k_ => some k_ ≠ (s_.1 : Value).ownBlock ∧ some k_ ≠ (.slice Ao57 t269.length co57 : Value).ownBlock ∧ some k_ ≠ (.slice Ao65 t258.length co65 : Value).ownBlock) s_.2.1 t281) ∧ (Kd.V k33 33 w' w.heap.size (fun k_ => some k_ ≠ (s_.1 : Value).ownBlock ∧ some k_ ≠ (s_.2.1 : Value).ownBlock ∧ some k_ ≠ (.slice Ao57 t269.length co57 : Value).ownBlock ∧ some k_ ≠ (.slice Ao65 t258.length co65 : Value).ownBlock ∧ k_ ≠ gb235 ∧ k_ ≠ gb236 ∧ k_ ≠ gb249 ∧ k_ ≠ gb254 ∧ k_ ≠ gb261 ∧ k_ ≠ s_.2.2) (.slice Ao47 t246.length co47) t246) ∧ (Kd.R k33 33 w' w.heap.size (fun k_ => some k_ ≠ (s_.1 : Value).ownBlock ∧ some k_ ≠ (s_.2.1 : Value).ownBlock ∧ some k_ ≠ (.slice Ao65 t258.length co65 : Value).ownBlock) (.slice Ao57 t269.length co57) t269) ∧ (Kd.R k33 33 w' w.heap.size (fun k_ => some k_ ≠ (s_.1 : Value).ownBlock ∧ some k_ ≠ (s_.2.1 : Value).ownBlock ∧ some k_ ≠ (.slice Ao57 t269.length co57 : Value).ownBlock) (.slice Ao65 t258.length co65) t272) ∧ (w'.heap[gb235]? = some (.cells #[.int .i64 a0_0,.slice A0_1 l0_1.length c0_1] 47 (0,0))) ∧ (w'.heap[gb236]? = some (.cells #[.string a1_0,.string a1_1] 69 (0,0))) ∧ (w'.heap[gb249]? = some (.cells #[.int .i64 t245,.slice Ao47 t246.length co47] 26 (0,0))) ∧ (w'.heap[gb254]? = some (.cells #[.int .i64 t250,.slice Ao57 t269.length co57] 26 (0,0))) ∧ (w'.heap[gb261]? = some (.cells #[.int .i64 t257,.slice Ao65 t258.length co65] 26 (0,0))) ∧ (w'.heap[s_.2.2]? = some (.cells #[.int .i64 0,.slice none 0 0] 26 (0,0))) ∧ (w.heap.size ≤ s_.2.2) ∧ (w.heap.size ≤ s_.2.2) ∧ (gb235 ≠ s_.2.2) ∧ (s_.2.2 ≠ gb235) ∧ (gb236 ≠ s_.2.2) ∧ (s_.2.2 ≠ gb236) ∧ (gb249 ≠ s_.2.2) ∧ (s_.2.2 ≠ gb249) ∧ (gb254 ≠ s_.2.2) ∧ (s_.2.2 ≠ gb254) ∧ (gb261 ≠ s_.2.2) ∧ (s_.2.2 ≠ gb261) ∧ (Below w.heap.size w w')) ?_ ?_
             rotate_left
             ·
              intro hCont
              refine two_ (i:=1) (j:=5) (Ni:=some 66) (Nj:=some 12) #[Y,Y,Y,Z,Z,Z,Z] #[Y,Z,Y,Z,Z,Y,Z] rfl rfl rfl rfl (by kernel_rfl) (by decide) (by decide) (fun K hK => ?_) (fun K hK => ?_)
              ·
               skip
               refine goes_ Try.func29 (by kernel_rfl) rfl #[.agg #[.int .i64 a0_0,.slice A0_1 l0_1.length c0_1]] (by rfl) rfl rfl (by (try simp only [zp1_,zp2_,zp3_]);first|done|rfl|(simp only [zp4_,zp5_];rfl)) ?_
               with_reducible refine (laws_toTable.calls kj30 a0_0 _ _ l0_1 t274 t275 _ ?side1 ?side2 A98.out).mono ?_
               (case side1 => repeat (first|exact (Kd.C_below HR0_1.out HB.out)|(with_reducible refine Kd.C_alloc ?_ _)|(with_reducible refine Kd.C_drewN ?_ _)|(with_reducible refine Kd.C_drew ?_)))
               (case side2 => exact HC0_1.out)
               rintro e w115 ⟨v276,rfl,ho0,hb⟩
               refine ⟨_,rfl,?_⟩
               have n0_:=zm0_ (Kd.V_elder' (by (with_reducible repeat (first|apply zn5_|apply zn6_|apply zn7_));exact HO_250001.out) (Kd.R_base ho0) hb)
               have n1_:=zm0_ (Kd.R_elder' (by (with_reducible repeat (first|apply k1_|apply k2_|apply k3_));exact HO_255001.out) (Kd.R_base ho0) hb)
               have n2_:=zm0_ (Kd.R_elder' (by (with_reducible repeat (first|apply k1_|apply k2_|apply k3_));exact HO_262001.out) (Kd.R_base ho0) hb)
               have n3_:=zm0_ (zo1_ (Kd.R_new' (Kd.R_new' ho0 (Kd.R_lt (by (with_reducible repeat (first|apply k1_|apply k2_|apply k3_));exact HO_255001.out))) (Kd.R_lt (by (with_reducible repeat (first|apply k1_|apply k2_|apply k3_));exact HO_262001.out))) (zn9_ (by repeat (first|(with_reducible first|exact HB.out|apply zm3_|apply zm2_|apply zm4_|refine zm1_ ?_ GE235.out|refine zm1_ ?_ GE236.out|refine zm1_ ?_ GE249.out|refine zm1_ ?_ GE254.out|refine zm1_ ?_ GE261.out)|exact HB.out))))
               have n4_:=zm0_ (zm5_ (by (with_reducible repeat (first|refine k6_ ?_ _|refine k7_ ?_|refine k5_ ?_ _));exact BK235.out) hb)
               have n5_:=zm0_ (zm5_ (by (with_reducible repeat (first|refine k6_ ?_ _|refine k7_ ?_|refine k5_ ?_ _));exact BK236.out) hb)
               have n6_:=zm0_ (zm5_ (by (with_reducible repeat (first|refine k6_ ?_ _|refine k7_ ?_|refine k5_ ?_ _));exact BK249.out) hb)
               have n7_:=zm0_ (zm5_ (by (with_reducible repeat (first|refine k6_ ?_ _|refine k7_ ?_|refine k5_ ?_ _));exact BK254.out) hb)
               have n8_:=zm0_ (zm5_ (by (with_reducible repeat (first|refine k6_ ?_ _|refine k7_ ?_|refine k5_ ?_ _));exact BK261.out) hb)
               have n9_:=zm0_ (zn8_ (by repeat (first|(with_reducible first|exact HB.out|apply zm3_|apply zm2_|apply zm4_|refine zm1_ ?_ GE235.out|refine zm1_ ?_ GE236.out|refine zm1_ ?_ GE249.out|refine zm1_ ?_ GE254.out|refine zm1_ ?_ GE261.out)|exact HB.out)) hb)
               clear HO_250001
               clear HO_255001
               clear HO_262001
               clear BK235
               clear BK236
               clear BK249
               clear BK254
               clear BK261
               clear HB
               have HO_250001:=n0_
               have HO_255001:=n1_
               have HO_262001:=n2_
               have HO277:=n3_
               have BK235:=n4_
               have BK236:=n5_
               have BK249:=n6_
               have BK254:=n7_
               have BK261:=n8_
               have HB:=n9_
               clear n0_ n1_ n2_ n3_ n4_ n5_ n6_ n7_ n8_ n9_
               (try clear hb)
               (try clear hb2)
               (try clear hk)
               (try clear hi)
               (try clear ho0)
               refine hK.out _ _ ⟨(zm6_ BK235.out 0).trans rfl,(zm6_ BK235.out 1).trans rfl,(zm6_ BK236.out 0).trans rfl,(zm6_ BK236.out 1).trans rfl⟩ (fun hHeld => ?_)
               clear hK K
               refine norm_ (a':=?_) ?_ ?_
               rotate_left
               ·
                show Act.put _ (some 66) _ = _
                simp only [Act.put,lA_,lB_,lC_,i64_w,i32_w]
                rfl
               refine two_ (i:=3) (j:=5) (Ni:=some 68) (Nj:=some 12) #[Y,Y,Y,Y,Z,Z,Z] #[Y,Y,Y,Z,Z,Y,Z] rfl rfl rfl rfl (by kernel_rfl) (by decide) (by decide) (fun K hK => ?_) (fun K hK => ?_)
               ·
                skip
                refine goes_ Try.func47 (by kernel_rfl) rfl #[.agg #[.string a1_0,.string a1_1]] (by rfl) rfl rfl (by (try simp only [zp1_,zp2_,zp3_]);first|done|rfl|(simp only [zp4_,zp5_];rfl)) ?_
                with_reducible refine (laws_toField.calls a1_0 a1_1 t278 t279 _ A99.out).mono ?_
                rintro e w116 ⟨rfl,hb⟩
                refine ⟨_,rfl,?_⟩
                have n0_:=zm0_ (zm9_ (by (with_reducible repeat (first|apply zn5_|apply zn6_|apply zn7_));exact HO_250001.out) hb)
                have n1_:=zm0_ (zm8_ (by (with_reducible repeat (first|apply k1_|apply k2_|apply k3_));exact HO_255001.out) hb)
                have n2_:=zm0_ (zm8_ (by (with_reducible repeat (first|apply k1_|apply k2_|apply k3_));exact HO_262001.out) hb)
                have n3_:=zm0_ (zm8_ (by (with_reducible repeat (first|apply k1_|apply k2_|apply k3_));exact HO277.out) hb)
                have n4_:=zm0_ (zm5_ (by (with_reducible repeat (first|refine k6_ ?_ _|refine k7_ ?_|refine k5_ ?_ _));exact BK235.out) hb)
                have n5_:=zm0_ (zm5_ (by (with_reducible repeat (first|refine k6_ ?_ _|refine k7_ ?_|refine k5_ ?_ _));exact BK236.out) hb)
                have n6_:=zm0_ (zm5_ (by (with_reducible repeat (first|refine k6_ ?_ _|refine k7_ ?_|refine k5_ ?_ _));exact BK249.out) hb)
                have n7_:=zm0_ (zm5_ (by (with_reducible repeat (first|refine k6_ ?_ _|refine k7_ ?_|refine k5_ ?_ _));exact BK254.out) hb)
                have n8_:=zm0_ (zm5_ (by (with_reducible repeat (first|refine k6_ ?_ _|refine k7_ ?_|refine k5_ ?_ _));exact BK261.out) hb)
                have n9_:=zm0_ (zn8_ (by repeat (first|(with_reducible first|exact HB.out|apply zm3_|apply zm2_|apply zm4_|refine zm1_ ?_ GE235.out|refine zm1_ ?_ GE236.out|refine zm1_ ?_ GE249.out|refine zm1_ ?_ GE254.out|refine zm1_ ?_ GE261.out)|exact HB.out)) hb)
                clear HO_250001
                clear HO_255001
                clear HO_262001
                clear HO277
                clear BK235
                clear BK236
                clear BK249
                clear BK254
                clear BK261
                clear HB
                have HO_250001:=n0_
                have HO_255001:=n1_
                have HO_262001:=n2_
                have HO277:=n3_
                have BK235:=n4_
                have BK236:=n5_
                have BK249:=n6_
                have BK254:=n7_
                have BK261:=n8_
                have HB:=n9_
                clear n0_ n1_ n2_ n3_ n4_ n5_ n6_ n7_ n8_ n9_
                (try clear hb)
                (try clear hb2)
                (try clear hk)
                (try clear hi)
                obtain ⟨Ao117,co117,eo117⟩:=Kd.R_slice HO277.out
                (first|subst eo117|(injection eo117 with f1_ f2_ f3_;have f4_:=f1_.symm;have f5_:=f3_.symm;clear f1_ f2_ f3_;subst f4_;subst f5_))
                refine hK.out _ _ ⟨(zm6_ BK235.out 0).trans rfl,(zm6_ BK235.out 1).trans rfl,(zm6_ BK236.out 0).trans rfl,(zm6_ BK236.out 1).trans rfl⟩ (fun hHeld => ?_)
                clear hK K
                refine norm_ (a':=?_) ?_ ?_
                rotate_left
                ·
                 show Act.put _ (some 68) _ = _
                 simp only [Act.put,lA_,lB_,lC_,i64_w,i32_w]
                 rfl
                refine two_ (i:=4) (j:=5) (Ni:=some 69) (Nj:=some 12) #[Y,Y,Y,Y,Y,Z,Z] #[Y,Y,Y,Y,Z,Y,Z] rfl rfl rfl rfl (by kernel_rfl) (by decide) (by decide) (fun K hK => ?_) (fun K hK => ?_)
                ·
                 skip
                 refine goes_ Try.func48 (by kernel_rfl) rfl #[.agg #[.int .i64 t274,.slice Ao117 t275.length co117],.agg #[.string t278,.string t279]] (by rfl) rfl rfl (by (try simp only [zp1_,zp2_,zp3_]);first|done|rfl|(simp only [zp4_,zp5_];rfl)) ?_
                 with_reducible refine (impl_AddField.calls kj30 t274 _ _ t275 t278 t279 t280 t281 _ ?side1 ?side2 A100.out).mono ?_
                 (case side1 => repeat (first|exact (Kd.R_reads' HO277.out).2.2|(with_reducible refine Kd.C_alloc ?_ _)|(with_reducible refine Kd.C_drewN ?_ _)|(with_reducible refine Kd.C_drew ?_)))
                 (case side2 => exact (Kd.R_reads' HO277.out).2.1)
                 rintro e w118 ⟨v282,rfl,ho0,hb⟩
                 refine ⟨_,rfl,?_⟩
                 have n0_:=zm0_ (Kd.V_elder' (by (with_reducible repeat (first|apply zn5_|apply zn6_|apply zn7_));exact HO_250001.out) (Kd.R_base ho0) hb)
                 have n1_:=zm0_ (Kd.R_elder' (by (with_reducible repeat (first|apply k1_|apply k2_|apply k3_));exact HO_255001.out) (Kd.R_base ho0) hb)
                 have n2_:=zm0_ (Kd.R_elder' (by (with_reducible repeat (first|apply k1_|apply k2_|apply k3_));exact HO_262001.out) (Kd.R_base ho0) hb)
                 have n3_:=zm0_ (Kd.R_elder' (by (with_reducible repeat (first|apply k1_|apply k2_|apply k3_));exact HO277.out) (Kd.R_base ho0) hb)
                 have n4_:=zm0_ (zo1_ (Kd.R_new' (Kd.R_new' (Kd.R_new' ho0 (Kd.R_lt (by (with_reducible repeat (first|apply k1_|apply k2_|apply k3_));exact HO_255001.out))) (Kd.R_lt (by (with_reducible repeat (first|apply k1_|apply k2_|apply k3_));exact HO_262001.out))) (Kd.R_lt (by (with_reducible repeat (first|apply k1_|apply k2_|apply k3_));exact HO277.out))) (zn9_ (by repeat (first|(with_reducible first|exact HB.out|apply zm3_|apply zm2_|apply zm4_|refine zm1_ ?_ GE235.out|refine zm1_ ?_ GE236.out|refine zm1_ ?_ GE249.out|refine zm1_ ?_ GE254.out|refine zm1_ ?_ GE261.out)|exact HB.out))))
                 have n5_:=zm0_ (zm5_ (by (with_reducible repeat (first|refine k6_ ?_ _|refine k7_ ?_|refine k5_ ?_ _));exact BK235.out) hb)
                 have n6_:=zm0_ (zm5_ (by (with_reducible repeat (first|refine k6_ ?_ _|refine k7_ ?_|refine k5_ ?_ _));exact BK236.out) hb)
                 have n7_:=zm0_ (zm5_ (by (with_reducible repeat (first|refine k6_ ?_ _|refine k7_ ?_|refine k5_ ?_ _));exact BK249.out) hb)
                 have n8_:=zm0_ (zm5_ (by (with_reducible repeat (first|refine k6_ ?_ _|refine k7_ ?_|refine k5_ ?_ _));exact BK254.out) hb)
                 have n9_:=zm0_ (zm5_ (by (with_reducible repeat (first|refine k6_ ?_ _|refine k7_ ?_|refine k5_ ?_ _));exact BK261.out) hb)
                 have n10_:=zm0_ (zn8_ (by repeat (first|(with_reducible first|exact HB.out|apply zm3_|apply zm2_|apply zm4_|refine zm1_ ?_ GE235.out|refine zm1_ ?_ GE236.out|refine zm1_ ?_ GE249.out|refine zm1_ ?_ GE254.out|refine zm1_ ?_ GE261.out)|exact HB.out)) hb)
                 clear HO_250001
                 clear HO_255001
                 clear HO_262001
                 clear HO277
                 clear BK235
                 clear BK236
                 clear BK249
                 clear BK254
                 clear BK261
                 clear HB
                 have HO_250001:=n0_
                 have HO_255001:=n1_
                 have HO_262001:=n2_
                 have HO277:=n3_
                 have HO283:=n4_
                 have BK235:=n5_
                 have BK236:=n6_
                 have BK249:=n7_
                 have BK254:=n8_
                 have BK261:=n9_
                 have HB:=n10_
                 clear n0_ n1_ n2_ n3_ n4_ n5_ n6_ n7_ n8_ n9_ n10_
                 (try clear hb)
                 (try clear hb2)
                 (try clear hk)
                 (try clear hi)
                 (try clear ho0)
                 refine hK.out _ _ ⟨(zm6_ BK235.out 0).trans rfl,(zm6_ BK235.out 1).trans rfl,(zm6_ BK236.out 0).trans rfl,(zm6_ BK236.out 1).trans rfl⟩ (fun hHeld => ?_)
                 clear hK K
                 refine norm_ (a':=?_) ?_ ?_
                 rotate_left
                 ·
                  show Act.put _ (some 69) _ = _
                  simp only [Act.put,lA_,lB_,lC_,i64_w,i32_w]
                  rfl
                 refine one_ (i:=5) (N:=some 12) #[Y,Y,Y,Y,Y,Y,Z] rfl rfl (by kernel_rfl) (by decide) (fun K hK => ?_)
                 refine box_step ?hg (N:=12) ?hd (cs:=#[.int .i64 0,.slice none 0 0]) (t:=26) ?hr ?_;(case hd => rfl);(case hg => rfl);(case hr => first|(go_simp;done)|(go_simp;rfl))
                 intro gb284 hg w119 hbox hb
                 have n0_:=zm0_ (zm9_ (Kd.V_elderB (by (with_reducible repeat (first|apply zn5_|apply zn6_|apply zn7_));exact HO_250001.out) gb284 (Nat.le_of_eq hg.symm)) hb)
                 have n1_:=zm0_ (zm8_ (by (with_reducible repeat (first|apply k1_|apply k2_|apply k3_));exact HO_255001.out) hb)
                 have n2_:=zm0_ (zm8_ (by (with_reducible repeat (first|apply k1_|apply k2_|apply k3_));exact HO_262001.out) hb)
                 have n3_:=zm0_ (zm8_ (by (with_reducible repeat (first|apply k1_|apply k2_|apply k3_));exact HO277.out) hb)
                 have n4_:=zm0_ (zm8_ (by (with_reducible repeat (first|apply k1_|apply k2_|apply k3_));exact HO283.out) hb)
                 have n5_:=zm0_ (zm5_ (by (with_reducible repeat (first|refine k6_ ?_ _|refine k7_ ?_|refine k5_ ?_ _));exact BK235.out) hb)
                 have n6_:=zm0_ (zm5_ (by (with_reducible repeat (first|refine k6_ ?_ _|refine k7_ ?_|refine k5_ ?_ _));exact BK236.out) hb)
                 have n7_:=zm0_ (zm5_ (by (with_reducible repeat (first|refine k6_ ?_ _|refine k7_ ?_|refine k5_ ?_ _));exact BK249.out) hb)
                 have n8_:=zm0_ (zm5_ (by (with_reducible repeat (first|refine k6_ ?_ _|refine k7_ ?_|refine k5_ ?_ _));exact BK254.out) hb)
                 have n9_:=zm0_ (zm5_ (by (with_reducible repeat (first|refine k6_ ?_ _|refine k7_ ?_|refine k5_ ?_ _));exact BK261.out) hb)
                 have n10_:=zm0_ (zn8_ (by repeat (first|(with_reducible first|exact HB.out|apply zm3_|apply zm2_|apply zm4_|refine zm1_ ?_ GE235.out|refine zm1_ ?_ GE236.out|refine zm1_ ?_ GE249.out|refine zm1_ ?_ GE254.out|refine zm1_ ?_ GE261.out)|exact HB.out)) hb)
                 have n11_:=zm0_ (hbox)
                 have n12_:=zm0_ ((by rw [hg];exact (zn9_ (by repeat (first|(with_reducible first|exact HB.out|apply zm3_|apply zm2_|apply zm4_|refine zm1_ ?_ GE235.out|refine zm1_ ?_ GE236.out|refine zm1_ ?_ GE249.out|refine zm1_ ?_ GE254.out|refine zm1_ ?_ GE261.out)|exact HB.out))) : w.heap.size ≤ gb284))
                 have n13_:=zm0_ ((by rw [hg];exact (zn9_ (by repeat (first|(with_reducible first|exact HB.out|apply zm3_|apply zm2_|apply zm4_|refine zm1_ ?_ GE235.out|refine zm1_ ?_ GE236.out|refine zm1_ ?_ GE249.out|refine zm1_ ?_ GE254.out|refine zm1_ ?_ GE261.out)|exact HB.out))) : w.heap.size ≤ gb284))
                 have n14_:=zm0_ ((by rw [hg];exact Nat.ne_of_lt (zo3_ (g:=gb235) (o:=.cells #[.int .i64 a0_0,.slice A0_1 l0_1.length c0_1] 47 (0,0)) (by (with_reducible repeat (first|refine k6_ ?_ _|refine k7_ ?_|refine k5_ ?_ _));exact BK235.out)) : gb235 ≠ gb284))
                 have n15_:=zm0_ ((by rw [hg];exact Nat.ne_of_gt (zo3_ (g:=gb235) (o:=.cells #[.int .i64 a0_0,.slice A0_1 l0_1.length c0_1] 47 (0,0)) (by (with_reducible repeat (first|refine k6_ ?_ _|refine k7_ ?_|refine k5_ ?_ _));exact BK235.out)) : gb284 ≠ gb235))
                 have n16_:=zm0_ ((by rw [hg];exact Nat.ne_of_lt (zo3_ (g:=gb236) (o:=.cells #[.string a1_0,.string a1_1] 69 (0,0)) (by (with_reducible repeat (first|refine k6_ ?_ _|refine k7_ ?_|refine k5_ ?_ _));exact BK236.out)) : gb236 ≠ gb284))
                 have n17_:=zm0_ ((by rw [hg];exact Nat.ne_of_gt (zo3_ (g:=gb236) (o:=.cells #[.string a1_0,.string a1_1] 69 (0,0)) (by (with_reducible repeat (first|refine k6_ ?_ _|refine k7_ ?_|refine k5_ ?_ _));exact BK236.out)) : gb284 ≠ gb236))
                 have n18_:=zm0_ ((by rw [hg];exact Nat.ne_of_lt (zo3_ (g:=gb249) (o:=.cells #[.int .i64 t245,.slice Ao47 t246.length co47] 26 (0,0)) (by (with_reducible repeat (first|refine k6_ ?_ _|refine k7_ ?_|refine k5_ ?_ _));exact BK249.out)) : gb249 ≠ gb284))
                 have n19_:=zm0_ ((by rw [hg];exact Nat.ne_of_gt (zo3_ (g:=gb249) (o:=.cells #[.int .i64 t245,.slice Ao47 t246.length co47] 26 (0,0)) (by (with_reducible repeat (first|refine k6_ ?_ _|refine k7_ ?_|refine k5_ ?_ _));exact BK249.out)) : gb284 ≠ gb249))
                 have n20_:=zm0_ ((by rw [hg];exact Nat.ne_of_lt (zo3_ (g:=gb254) (o:=.cells #[.int .i64 t250,.slice Ao57 t269.length co57] 26 (0,0)) (by (with_reducible repeat (first|refine k6_ ?_ _|refine k7_ ?_|refine k5_ ?_ _));exact BK254.out)) : gb254 ≠ gb284))
                 have n21_:=zm0_ ((by rw [hg];exact Nat.ne_of_gt (zo3_ (g:=gb254) (o:=.cells #[.int .i64 t250,.slice Ao57 t269.length co57] 26 (0,0)) (by (with_reducible repeat (first|refine k6_ ?_ _|refine k7_ ?_|refine k5_ ?_ _));exact BK254.out)) : gb284 ≠ gb254))
                 have n22_:=zm0_ ((by rw [hg];exact Nat.ne_of_lt (zo3_ (g:=gb261) (o:=.cells #[.int .i64 t257,.slice Ao65 t258.length co65] 26 (0,0)) (by (with_reducible repeat (first|refine k6_ ?_ _|refine k7_ ?_|refine k5_ ?_ _));exact BK261.out)) : gb261 ≠ gb284))
                 have n23_:=zm0_ ((by rw [hg];exact Nat.ne_of_gt (zo3_ (g:=gb261) (o:=.cells #[.int .i64 t257,.slice Ao65 t258.length co65] 26 (0,0)) (by (with_reducible repeat (first|refine k6_ ?_ _|refine k7_ ?_|refine k5_ ?_ _));exact BK261.out)) : gb284 ≠ gb261))
                 clear HO_250001
                 clear HO_255001
                 clear HO_262001
                 clear HO277
                 clear HO283
                 clear BK235
                 clear BK236
                 clear BK249
                 clear BK254
                 clear BK261
                 clear HB
                 have HO_250001:=n0_
                 have HO_255001:=n1_
                 have HO_262001:=n2_
                 have HO277:=n3_
                 have HO283:=n4_
                 have BK235:=n5_
                 have BK236:=n6_
                 have BK249:=n7_
                 have BK254:=n8_
                 have BK261:=n9_
                 have HB:=n10_
                 have BK284:=n11_
                 have GW284:=n12_
                 have GE284:=n13_
                 have NB235_284:=n14_
                 have NB284_235:=n15_
                 have NB236_284:=n16_
                 have NB284_236:=n17_
                 have NB249_284:=n18_
                 have NB284_249:=n19_
                 have NB254_284:=n20_
                 have NB284_254:=n21_
                 have NB261_284:=n22_
                 have NB284_261:=n23_
                 clear n0_ n1_ n2_ n3_ n4_ n5_ n6_ n7_ n8_ n9_ n10_ n11_ n12_ n13_ n14_ n15_ n16_ n17_ n18_ n19_ n20_ n21_ n22_ n23_
                 clear hb hbox hg
                 refine hK.out _ _ ⟨(zm6_ BK235.out 0).trans rfl,(zm6_ BK235.out 1).trans rfl,(zm6_ BK236.out 0).trans rfl,(zm6_ BK236.out 1).trans rfl⟩ (fun hHeld => ?_)
                 clear hK K
                 refine norm_ (a':=?_) ?_ ?_
                 rotate_left
                 ·
                  show Act.put _ (some 12) _ = _
                  simp only [Act.put,lA_,lB_,lC_,i64_w,i32_w]
                  rfl
                 exact norm_ (by simp only [putAll,Act.put,lA_,lB_,lC_]) (hCont (.slice Ao117 t275.length co117,v282,gb284) _ ⟨hHeld,(by (with_reducible repeat (first|apply k1_|apply k2_|apply k3_));exact zo2_ HO277.out (fun _ hk => ⟨(by first|exact hk.2|(have hq_:=hk;simp only [ne_eq] at hq_ ⊢;simp only [hq_,k8_,and_self])),⟨(by first|exact hk.1.1.2|(have hq_:=hk;simp only [ne_eq] at hq_ ⊢;simp only [hq_,k8_,and_self])),(by first|exact hk.1.2|(have hq_:=hk;simp only [ne_eq] at hq_ ⊢;simp only [hq_,k8_,and_self]))⟩⟩)),(by (with_reducible repeat (first|apply k1_|apply k2_|apply k3_));exact zo2_ HO283.out (fun _ hk => ⟨(by first|exact hk.2|(have hq_:=hk;simp only [ne_eq] at hq_ ⊢;simp only [hq_,k8_,and_self])),⟨(by first|exact hk.1.1.2|(have hq_:=hk;simp only [ne_eq] at hq_ ⊢;simp only [hq_,k8_,and_self])),(by first|exact hk.1.2|(have hq_:=hk;simp only [ne_eq] at hq_ ⊢;simp only [hq_,k8_,and_self]))⟩⟩)),(by (with_reducible repeat (first|apply zn5_|apply zn6_|apply zn7_));exact Kd.V_mono HO_250001.out (fun _ hk => ⟨(by first|exact hk.1.1.2|(have hq_:=hk;simp only [ne_eq] at hq_ ⊢;simp only [hq_,k8_,and_self])),⟨(by first|exact hk.1.2|(have hq_:=hk;simp only [ne_eq] at hq_ ⊢;simp only [hq_,k8_,and_self])),⟨(by first|exact hk.1.1.1.1|(have hq_:=hk;simp only [ne_eq] at hq_ ⊢;simp only [hq_,k8_,and_self])),⟨(by first|exact hk.1.1.1.2.1|(have hq_:=hk;simp only [ne_eq] at hq_ ⊢;simp only [hq_,k8_,and_self])),⟨(by first|exact hk.1.1.1.2.2.1|(have hq_:=hk;simp only [ne_eq] at hq_ ⊢;simp only [hq_,k8_,and_self])),⟨(by first|exact hk.1.1.1.2.2.2.1|(have hq_:=hk;simp only [ne_eq] at hq_ ⊢;simp only [hq_,k8_,and_self])),⟨(by first|exact hk.1.1.1.2.2.2.2.1|(have hq_:=hk;simp only [ne_eq] at hq_ ⊢;simp only [hq_,k8_,and_self])),⟨(by first|exact hk.1.1.1.2.2.2.2.2.1|(have hq_:=hk;simp only [ne_eq] at hq_ ⊢;simp only [hq_,k8_,and_self])),⟨(by first|exact hk.1.1.1.2.2.2.2.2.2|(have hq_:=hk;simp only [ne_eq] at hq_ ⊢;simp only [hq_,k8_,and_self])),(by first|exact hk.2|(have hq_:=hk;simp only [ne_eq] at hq_ ⊢;simp only [hq_,k8_,and_self]))⟩⟩⟩⟩⟩⟩⟩⟩⟩)),(by (with_reducible repeat (first|apply k1_|apply k2_|apply k3_));exact zo2_ HO_255001.out (fun _ hk => ⟨(by first|exact hk.1.2|(have hq_:=hk;simp only [ne_eq] at hq_ ⊢;simp only [hq_,k8_,and_self])),⟨(by first|exact hk.2|(have hq_:=hk;simp only [ne_eq] at hq_ ⊢;simp only [hq_,k8_,and_self])),(by first|exact hk.1.1|(have hq_:=hk;simp only [ne_eq] at hq_ ⊢;simp only [hq_,k8_,and_self]))⟩⟩)),(by (with_reducible repeat (first|apply k1_|apply k2_|apply k3_));exact zo2_ HO_262001.out (fun _ hk => ⟨(by first|exact hk.1.2|(have hq_:=hk;simp only [ne_eq] at hq_ ⊢;simp only [hq_,k8_,and_self])),⟨(by first|exact hk.2|(have hq_:=hk;simp only [ne_eq] at hq_ ⊢;simp only [hq_,k8_,and_self])),(by first|exact hk.1.1|(have hq_:=hk;simp only [ne_eq] at hq_ ⊢;simp only [hq_,k8_,and_self]))⟩⟩)),(by (with_reducible repeat (first|refine k6_ ?_ _|refine k7_ ?_|refine k5_ ?_ _));exact BK235.out),(by (with_reducible repeat (first|refine k6_ ?_ _|refine k7_ ?_|refine k5_ ?_ _));exact BK236.out),(by (with_reducible repeat (first|refine k6_ ?_ _|refine k7_ ?_|refine k5_ ?_ _));exact BK249.out),(by (with_reducible repeat (first|refine k6_ ?_ _|refine k7_ ?_|refine k5_ ?_ _));exact BK254.out),(by (with_reducible repeat (first|refine k6_ ?_ _|refine k7_ ?_|refine k5_ ?_ _));exact BK261.out),(by (with_reducible repeat (first|refine k6_ ?_ _|refine k7_ ?_|refine k5_ ?_ _));exact BK284.out),GW284.out,GE284.out,NB235_284.out,NB284_235.out,NB236_284.out,NB284_236.out,NB249_284.out,NB284_249.out,NB254_284.out,NB284_254.out,NB261_284.out,NB284_261.out,(by repeat (first|(with_reducible first|exact HB.out|apply zm3_|apply zm2_|apply zm4_|refine zm1_ ?_ GE235.out|refine zm1_ ?_ GE236.out|refine zm1_ ?_ GE249.out|refine zm1_ ?_ GE254.out|refine zm1_ ?_ GE261.out|refine zm1_ ?_ GE284.out)|exact HB.out))⟩)
                ·
                 skip
                 refine box_step ?hg (N:=12) ?hd (cs:=#[.int .i64 0,.slice none 0 0]) (t:=26) ?hr ?_;(case hd => rfl);(case hg => rfl);(case hr => first|(go_simp;done)|(go_simp;rfl))
                 intro gb284 hg w117 hbox hb
                 have n0_:=zm0_ (zm9_ (Kd.V_elderB (by (with_reducible repeat (first|apply zn5_|apply zn6_|apply zn7_));exact HO_250001.out) gb284 (Nat.le_of_eq hg.symm)) hb)
                 have n1_:=zm0_ (zm8_ (by (with_reducible repeat (first|apply k1_|apply k2_|apply k3_));exact HO_255001.out) hb)
                 have n2_:=zm0_ (zm8_ (by (with_reducible repeat (first|apply k1_|apply k2_|apply k3_));exact HO_262001.out) hb)
                 have n3_:=zm0_ (zm8_ (by (with_reducible repeat (first|apply k1_|apply k2_|apply k3_));exact HO277.out) hb)
                 have n4_:=zm0_ (zm5_ (by (with_reducible repeat (first|refine k6_ ?_ _|refine k7_ ?_|refine k5_ ?_ _));exact BK235.out) hb)
                 have n5_:=zm0_ (zm5_ (by (with_reducible repeat (first|refine k6_ ?_ _|refine k7_ ?_|refine k5_ ?_ _));exact BK236.out) hb)
                 have n6_:=zm0_ (zm5_ (by (with_reducible repeat (first|refine k6_ ?_ _|refine k7_ ?_|refine k5_ ?_ _));exact BK249.out) hb)
                 have n7_:=zm0_ (zm5_ (by (with_reducible repeat (first|refine k6_ ?_ _|refine k7_ ?_|refine k5_ ?_ _));exact BK254.out) hb)
                 have n8_:=zm0_ (zm5_ (by (with_reducible repeat (first|refine k6_ ?_ _|refine k7_ ?_|refine k5_ ?_ _));exact BK261.out) hb)
                 have n9_:=zm0_ (zn8_ (by repeat (first|(with_reducible first|exact HB.out|apply zm3_|apply zm2_|apply zm4_|refine zm1_ ?_ GE235.out|refine zm1_ ?_ GE236.out|refine zm1_ ?_ GE249.out|refine zm1_ ?_ GE254.out|refine zm1_ ?_ GE261.out)|exact HB.out)) hb)
                 have n10_:=zm0_ (hbox)
                 have n11_:=zm0_ ((by rw [hg];exact (zn9_ (by repeat (first|(with_reducible first|exact HB.out|apply zm3_|apply zm2_|apply zm4_|refine zm1_ ?_ GE235.out|refine zm1_ ?_ GE236.out|refine zm1_ ?_ GE249.out|refine zm1_ ?_ GE254.out|refine zm1_ ?_ GE261.out)|exact HB.out))) : w.heap.size ≤ gb284))
                 have n12_:=zm0_ ((by rw [hg];exact (zn9_ (by repeat (first|(with_reducible first|exact HB.out|apply zm3_|apply zm2_|apply zm4_|refine zm1_ ?_ GE235.out|refine zm1_ ?_ GE236.out|refine zm1_ ?_ GE249.out|refine zm1_ ?_ GE254.out|refine zm1_ ?_ GE261.out)|exact HB.out))) : w.heap.size ≤ gb284))
                 have n13_:=zm0_ ((by rw [hg];exact Nat.ne_of_lt (zo3_ (g:=gb235) (o:=.cells #[.int .i64 a0_0,.slice A0_1 l0_1.length c0_1] 47 (0,0)) (by (with_reducible repeat (first|refine k6_ ?_ _|refine k7_ ?_|refine k5_ ?_ _));exact BK235.out)) : gb235 ≠ gb284))
                 have n14_:=zm0_ ((by rw [hg];exact Nat.ne_of_gt (zo3_ (g:=gb235) (o:=.cells #[.int .i64 a0_0,.slice A0_1 l0_1.length c0_1] 47 (0,0)) (by (with_reducible repeat (first|refine k6_ ?_ _|refine k7_ ?_|refine k5_ ?_ _));exact BK235.out)) : gb284 ≠ gb235))
                 have n15_:=zm0_ ((by rw [hg];exact Nat.ne_of_lt (zo3_ (g:=gb236) (o:=.cells #[.string a1_0,.string a1_1] 69 (0,0)) (by (with_reducible repeat (first|refine k6_ ?_ _|refine k7_ ?_|refine k5_ ?_ _));exact BK236.out)) : gb236 ≠ gb284))
                 have n16_:=zm0_ ((by rw [hg];exact Nat.ne_of_gt (zo3_ (g:=gb236) (o:=.cells #[.string a1_0,.string a1_1] 69 (0,0)) (by (with_reducible repeat (first|refine k6_ ?_ _|refine k7_ ?_|refine k5_ ?_ _));exact BK236.out)) : gb284 ≠ gb236))
                 have n17_:=zm0_ ((by rw [hg];exact Nat.ne_of_lt (zo3_ (g:=gb249) (o:=.cells #[.int .i64 t245,.slice Ao47 t246.length co47] 26 (0,0)) (by (with_reducible repeat (first|refine k6_ ?_ _|refine k7_ ?_|refine k5_ ?_ _));exact BK249.out)) : gb249 ≠ gb284))
                 have n18_:=zm0_ ((by rw [hg];exact Nat.ne_of_gt (zo3_ (g:=gb249) (o:=.cells #[.int .i64 t245,.slice Ao47 t246.length co47] 26 (0,0)) (by (with_reducible repeat (first|refine k6_ ?_ _|refine k7_ ?_|refine k5_ ?_ _));exact BK249.out)) : gb284 ≠ gb249))
                 have n19_:=zm0_ ((by rw [hg];exact Nat.ne_of_lt (zo3_ (g:=gb254) (o:=.cells #[.int .i64 t250,.slice Ao57 t269.length co57] 26 (0,0)) (by (with_reducible repeat (first|refine k6_ ?_ _|refine k7_ ?_|refine k5_ ?_ _));exact BK254.out)) : gb254 ≠ gb284))
                 have n20_:=zm0_ ((by rw [hg];exact Nat.ne_of_gt (zo3_ (g:=gb254) (o:=.cells #[.int .i64 t250,.slice Ao57 t269.length co57] 26 (0,0)) (by (with_reducible repeat (first|refine k6_ ?_ _|refine k7_ ?_|refine k5_ ?_ _));exact BK254.out)) : gb284 ≠ gb254))
                 have n21_:=zm0_ ((by rw [hg];exact Nat.ne_of_lt (zo3_ (g:=gb261) (o:=.cells #[.int .i64 t257,.slice Ao65 t258.length co65] 26 (0,0)) (by (with_reducible repeat (first|refine k6_ ?_ _|refine k7_ ?_|refine k5_ ?_ _));exact BK261.out)) : gb261 ≠ gb284))
                 have n22_:=zm0_ ((by rw [hg];exact Nat.ne_of_gt (zo3_ (g:=gb261) (o:=.cells #[.int .i64 t257,.slice Ao65 t258.length co65] 26 (0,0)) (by (with_reducible repeat (first|refine k6_ ?_ _|refine k7_ ?_|refine k5_ ?_ _));exact BK261.out)) : gb284 ≠ gb261))
                 clear HO_250001
                 clear HO_255001
                 clear HO_262001
                 clear HO277
                 clear BK235
                 clear BK236
                 clear BK249
                 clear BK254
                 clear BK261
                 clear HB
                 have HO_250001:=n0_
                 have HO_255001:=n1_
                 have HO_262001:=n2_
                 have HO277:=n3_
                 have BK235:=n4_
                 have BK236:=n5_
                 have BK249:=n6_
                 have BK254:=n7_
                 have BK261:=n8_
                 have HB:=n9_
                 have BK284:=n10_
                 have GW284:=n11_
                 have GE284:=n12_
                 have NB235_284:=n13_
                 have NB284_235:=n14_
                 have NB236_284:=n15_
                 have NB284_236:=n16_
                 have NB249_284:=n17_
                 have NB284_249:=n18_
                 have NB254_284:=n19_
                 have NB284_254:=n20_
                 have NB261_284:=n21_
                 have NB284_261:=n22_
                 clear n0_ n1_ n2_ n3_ n4_ n5_ n6_ n7_ n8_ n9_ n10_ n11_ n12_ n13_ n14_ n15_ n16_ n17_ n18_ n19_ n20_ n21_ n22_
                 clear hb hbox hg
                 obtain ⟨Ao118,co118,eo118⟩:=Kd.R_slice HO277.out
                 (first|subst eo118|(injection eo118 with f1_ f2_ f3_;have f4_:=f1_.symm;have f5_:=f3_.symm;clear f1_ f2_ f3_;subst f4_;subst f5_))
                 refine hK.out _ _ ⟨(zm6_ BK235.out 0).trans rfl,(zm6_ BK235.out 1).trans rfl,(zm6_ BK236.out 0).trans rfl,(zm6_ BK236.out 1).trans rfl⟩ (fun hHeld => ?_)
                 clear hK K
                 refine norm_ (a':=?_) ?_ ?_
                 rotate_left
                 ·
                  show Act.put _ (some 12) _ = _
                  simp only [Act.put,lA_,lB_,lC_,i64_w,i32_w]
                  rfl
                 refine one_ (i:=4) (N:=some 69) #[Y,Y,Y,Y,Y,Y,Z] rfl rfl (by kernel_rfl) (by decide) (fun K hK => ?_)
                 refine goes_ Try.func48 (by kernel_rfl) rfl #[.agg #[.int .i64 t274,.slice Ao118 t275.length co118],.agg #[.string t278,.string t279]] (by rfl) rfl rfl (by (try simp only [zp1_,zp2_,zp3_]);first|done|rfl|(simp only [zp4_,zp5_];rfl)) ?_
                 with_reducible refine (impl_AddField.calls kj30 t274 _ _ t275 t278 t279 t280 t281 _ ?side1 ?side2 A100.out).mono ?_
                 (case side1 => repeat (first|exact (Kd.R_reads' HO277.out).2.2|(with_reducible refine Kd.C_alloc ?_ _)|(with_reducible refine Kd.C_drewN ?_ _)|(with_reducible refine Kd.C_drew ?_)))
                 (case side2 => exact (Kd.R_reads' HO277.out).2.1)
                 rintro e w119 ⟨v282,rfl,ho0,hb⟩
                 refine ⟨_,rfl,?_⟩
                 have n0_:=zm0_ (Kd.V_elder' (by (with_reducible repeat (first|apply zn5_|apply zn6_|apply zn7_));exact HO_250001.out) (Kd.R_base ho0) hb)
                 have n1_:=zm0_ (Kd.R_elder' (by (with_reducible repeat (first|apply k1_|apply k2_|apply k3_));exact HO_255001.out) (Kd.R_base ho0) hb)
                 have n2_:=zm0_ (Kd.R_elder' (by (with_reducible repeat (first|apply k1_|apply k2_|apply k3_));exact HO_262001.out) (Kd.R_base ho0) hb)
                 have n3_:=zm0_ (Kd.R_elder' (by (with_reducible repeat (first|apply k1_|apply k2_|apply k3_));exact HO277.out) (Kd.R_base ho0) hb)
                 have n4_:=zm0_ (zo1_ (Kd.R_new' (Kd.R_new' (Kd.R_new' ho0 (Kd.R_lt (by (with_reducible repeat (first|apply k1_|apply k2_|apply k3_));exact HO_255001.out))) (Kd.R_lt (by (with_reducible repeat (first|apply k1_|apply k2_|apply k3_));exact HO_262001.out))) (Kd.R_lt (by (with_reducible repeat (first|apply k1_|apply k2_|apply k3_));exact HO277.out))) (zn9_ (by repeat (first|(with_reducible first|exact HB.out|apply zm3_|apply zm2_|apply zm4_|refine zm1_ ?_ GE235.out|refine zm1_ ?_ GE236.out|refine zm1_ ?_ GE249.out|refine zm1_ ?_ GE254.out|refine zm1_ ?_ GE261.out|refine zm1_ ?_ GE284.out)|exact HB.out))))
                 have n5_:=zm0_ (zm5_ (by (with_reducible repeat (first|refine k6_ ?_ _|refine k7_ ?_|refine k5_ ?_ _));exact BK235.out) hb)
                 have n6_:=zm0_ (zm5_ (by (with_reducible repeat (first|refine k6_ ?_ _|refine k7_ ?_|refine k5_ ?_ _));exact BK236.out) hb)
                 have n7_:=zm0_ (zm5_ (by (with_reducible repeat (first|refine k6_ ?_ _|refine k7_ ?_|refine k5_ ?_ _));exact BK249.out) hb)
                 have n8_:=zm0_ (zm5_ (by (with_reducible repeat (first|refine k6_ ?_ _|refine k7_ ?_|refine k5_ ?_ _));exact BK254.out) hb)
                 have n9_:=zm0_ (zm5_ (by (with_reducible repeat (first|refine k6_ ?_ _|refine k7_ ?_|refine k5_ ?_ _));exact BK261.out) hb)
                 have n10_:=zm0_ (zm5_ (by (with_reducible repeat (first|refine k6_ ?_ _|refine k7_ ?_|refine k5_ ?_ _));exact BK284.out) hb)
                 have n11_:=zm0_ (zn8_ (by repeat (first|(with_reducible first|exact HB.out|apply zm3_|apply zm2_|apply zm4_|refine zm1_ ?_ GE235.out|refine zm1_ ?_ GE236.out|refine zm1_ ?_ GE249.out|refine zm1_ ?_ GE254.out|refine zm1_ ?_ GE261.out|refine zm1_ ?_ GE284.out)|exact HB.out)) hb)
                 clear HO_250001
                 clear HO_255001
                 clear HO_262001
                 clear HO277
                 clear BK235
                 clear BK236
                 clear BK249
                 clear BK254
                 clear BK261
                 clear BK284
                 clear HB
                 have HO_250001:=n0_
                 have HO_255001:=n1_
                 have HO_262001:=n2_
                 have HO277:=n3_
                 have HO283:=n4_
                 have BK235:=n5_
                 have BK236:=n6_
                 have BK249:=n7_
                 have BK254:=n8_
                 have BK261:=n9_
                 have BK284:=n10_
                 have HB:=n11_
                 clear n0_ n1_ n2_ n3_ n4_ n5_ n6_ n7_ n8_ n9_ n10_ n11_
                 (try clear hb)
                 (try clear hb2)
                 (try clear hk)
                 (try clear hi)
                 (try clear ho0)
                 refine hK.out _ _ ⟨(zm6_ BK235.out 0).trans rfl,(zm6_ BK235.out 1).trans rfl,(zm6_ BK236.out 0).trans rfl,(zm6_ BK236.out 1).trans rfl⟩ (fun hHeld => ?_)
                 clear hK K
                 refine norm_ (a':=?_) ?_ ?_
                 rotate_left
                 ·
                  show Act.put _ (some 69) _ = _
                  simp only [Act.put,lA_,lB_,lC_,i64_w,i32_w]
                  rfl
                 exact norm_ (by simp only [putAll,Act.put,lA_,lB_,lC_]) (hCont (.slice Ao118 t275.length co118,v282,gb284) _ ⟨hHeld,(by (with_reducible repeat (first|apply k1_|apply k2_|apply k3_));exact zo2_ HO277.out (fun _ hk => ⟨(by first|exact hk.2|(have hq_:=hk;simp only [ne_eq] at hq_ ⊢;simp only [hq_,k8_,and_self])),⟨(by first|exact hk.1.1.2|(have hq_:=hk;simp only [ne_eq] at hq_ ⊢;simp only [hq_,k8_,and_self])),(by first|exact hk.1.2|(have hq_:=hk;simp only [ne_eq] at hq_ ⊢;simp only [hq_,k8_,and_self]))⟩⟩)),(by (with_reducible repeat (first|apply k1_|apply k2_|apply k3_));exact zo2_ HO283.out (fun _ hk => ⟨(by first|exact hk.2|(have hq_:=hk;simp only [ne_eq] at hq_ ⊢;simp only [hq_,k8_,and_self])),⟨(by first|exact hk.1.1.2|(have hq_:=hk;simp only [ne_eq] at hq_ ⊢;simp only [hq_,k8_,and_self])),(by first|exact hk.1.2|(have hq_:=hk;simp only [ne_eq] at hq_ ⊢;simp only [hq_,k8_,and_self]))⟩⟩)),(by (with_reducible repeat (first|apply zn5_|apply zn6_|apply zn7_));exact Kd.V_mono HO_250001.out (fun _ hk => ⟨(by first|exact hk.1.1.2|(have hq_:=hk;simp only [ne_eq] at hq_ ⊢;simp only [hq_,k8_,and_self])),⟨(by first|exact hk.2|(have hq_:=hk;simp only [ne_eq] at hq_ ⊢;simp only [hq_,k8_,and_self])),⟨(by first|exact hk.1.1.1.1|(have hq_:=hk;simp only [ne_eq] at hq_ ⊢;simp only [hq_,k8_,and_self])),⟨(by first|exact hk.1.1.1.2.1|(have hq_:=hk;simp only [ne_eq] at hq_ ⊢;simp only [hq_,k8_,and_self])),⟨(by first|exact hk.1.1.1.2.2.1|(have hq_:=hk;simp only [ne_eq] at hq_ ⊢;simp only [hq_,k8_,and_self])),⟨(by first|exact hk.1.1.1.2.2.2.1|(have hq_:=hk;simp only [ne_eq] at hq_ ⊢;simp only [hq_,k8_,and_self])),⟨(by first|exact hk.1.1.1.2.2.2.2.1|(have hq_:=hk;simp only [ne_eq] at hq_ ⊢;simp only [hq_,k8_,and_self])),⟨(by first|exact hk.1.1.1.2.2.2.2.2.1|(have hq_:=hk;simp only [ne_eq] at hq_ ⊢;simp only [hq_,k8_,and_self])),⟨(by first|exact hk.1.1.1.2.2.2.2.2.2|(have hq_:=hk;simp only [ne_eq] at hq_ ⊢;simp only [hq_,k8_,and_self])),(by first|exact hk.1.2|(have hq_:=hk;simp only [ne_eq] at hq_ ⊢;simp only [hq_,k8_,and_self]))⟩⟩⟩⟩⟩⟩⟩⟩⟩)),(by (with_reducible repeat (first|apply k1_|apply k2_|apply k3_));exact zo2_ HO_255001.out (fun _ hk => ⟨(by first|exact hk.1.2|(have hq_:=hk;simp only [ne_eq] at hq_ ⊢;simp only [hq_,k8_,and_self])),⟨(by first|exact hk.2|(have hq_:=hk;simp only [ne_eq] at hq_ ⊢;simp only [hq_,k8_,and_self])),(by first|exact hk.1.1|(have hq_:=hk;simp only [ne_eq] at hq_ ⊢;simp only [hq_,k8_,and_self]))⟩⟩)),(by (with_reducible repeat (first|apply k1_|apply k2_|apply k3_));exact zo2_ HO_262001.out (fun _ hk => ⟨(by first|exact hk.1.2|(have hq_:=hk;simp only [ne_eq] at hq_ ⊢;simp only [hq_,k8_,and_self])),⟨(by first|exact hk.2|(have hq_:=hk;simp only [ne_eq] at hq_ ⊢;simp only [hq_,k8_,and_self])),(by first|exact hk.1.1|(have hq_:=hk;simp only [ne_eq] at hq_ ⊢;simp only [hq_,k8_,and_self]))⟩⟩)),(by (with_reducible repeat (first|refine k6_ ?_ _|refine k7_ ?_|refine k5_ ?_ _));exact BK235.out),(by (with_reducible repeat (first|refine k6_ ?_ _|refine k7_ ?_|refine k5_ ?_ _));exact BK236.out),(by (with_reducible repeat (first|refine k6_ ?_ _|refine k7_ ?_|refine k5_ ?_ _));exact BK249.out),(by (with_reducible repeat (first|refine k6_ ?_ _|refine k7_ ?_|refine k5_ ?_ _));exact BK254.out),(by (with_reducible repeat (first|refine k6_ ?_ _|refine k7_ ?_|refine k5_ ?_ _));exact BK261.out),(by (with_reducible repeat (first|refine k6_ ?_ _|refine k7_ ?_|refine k5_ ?_ _));exact BK284.out),GW284.out,GE284.out,NB235_284.out,NB284_235.out,NB236_284.out,NB284_236.out,NB249_284.out,NB284_249.out,NB254_284.out,NB284_254.out,NB261_284.out,NB284_261.out,(by repeat (first|(with_reducible first|exact HB.out|apply zm3_|apply zm2_|apply zm4_|refine zm1_ ?_ GE235.out|refine zm1_ ?_ GE236.out|refine zm1_ ?_ GE249.out|refine zm1_ ?_ GE254.out|refine zm1_ ?_ GE261.out|refine zm1_ ?_ GE284.out)|exact HB.out))⟩)
               ·
                skip
                refine box_step ?hg (N:=12) ?hd (cs:=#[.int .i64 0,.slice none 0 0]) (t:=26) ?hr ?_;(case hd => rfl);(case hg => rfl);(case hr => first|(go_simp;done)|(go_simp;rfl))
                intro gb284 hg w116 hbox hb
                have n0_:=zm0_ (zm9_ (Kd.V_elderB (by (with_reducible repeat (first|apply zn5_|apply zn6_|apply zn7_));exact HO_250001.out) gb284 (Nat.le_of_eq hg.symm)) hb)
                have n1_:=zm0_ (zm8_ (by (with_reducible repeat (first|apply k1_|apply k2_|apply k3_));exact HO_255001.out) hb)
                have n2_:=zm0_ (zm8_ (by (with_reducible repeat (first|apply k1_|apply k2_|apply k3_));exact HO_262001.out) hb)
                have n3_:=zm0_ (zm8_ (by (with_reducible repeat (first|apply k1_|apply k2_|apply k3_));exact HO277.out) hb)
                have n4_:=zm0_ (zm5_ (by (with_reducible repeat (first|refine k6_ ?_ _|refine k7_ ?_|refine k5_ ?_ _));exact BK235.out) hb)
                have n5_:=zm0_ (zm5_ (by (with_reducible repeat (first|refine k6_ ?_ _|refine k7_ ?_|refine k5_ ?_ _));exact BK236.out) hb)
                have n6_:=zm0_ (zm5_ (by (with_reducible repeat (first|refine k6_ ?_ _|refine k7_ ?_|refine k5_ ?_ _));exact BK249.out) hb)
                have n7_:=zm0_ (zm5_ (by (with_reducible repeat (first|refine k6_ ?_ _|refine k7_ ?_|refine k5_ ?_ _));exact BK254.out) hb)
                have n8_:=zm0_ (zm5_ (by (with_reducible repeat (first|refine k6_ ?_ _|refine k7_ ?_|refine k5_ ?_ _));exact BK261.out) hb)
                have n9_:=zm0_ (zn8_ (by repeat (first|(with_reducible first|exact HB.out|apply zm3_|apply zm2_|apply zm4_|refine zm1_ ?_ GE235.out|refine zm1_ ?_ GE236.out|refine zm1_ ?_ GE249.out|refine zm1_ ?_ GE254.out|refine zm1_ ?_ GE261.out)|exact HB.out)) hb)
                have n10_:=zm0_ (hbox)
                have n11_:=zm0_ ((by rw [hg];exact (zn9_ (by repeat (first|(with_reducible first|exact HB.out|apply zm3_|apply zm2_|apply zm4_|refine zm1_ ?_ GE235.out|refine zm1_ ?_ GE236.out|refine zm1_ ?_ GE249.out|refine zm1_ ?_ GE254.out|refine zm1_ ?_ GE261.out)|exact HB.out))) : w.heap.size ≤ gb284))
                have n12_:=zm0_ ((by rw [hg];exact (zn9_ (by repeat (first|(with_reducible first|exact HB.out|apply zm3_|apply zm2_|apply zm4_|refine zm1_ ?_ GE235.out|refine zm1_ ?_ GE236.out|refine zm1_ ?_ GE249.out|refine zm1_ ?_ GE254.out|refine zm1_ ?_ GE261.out)|exact HB.out))) : w.heap.size ≤ gb284))
                have n13_:=zm0_ ((by rw [hg];exact Nat.ne_of_lt (zo3_ (g:=gb235) (o:=.cells #[.int .i64 a0_0,.slice A0_1 l0_1.length c0_1] 47 (0,0)) (by (with_reducible repeat (first|refine k6_ ?_ _|refine k7_ ?_|refine k5_ ?_ _));exact BK235.out)) : gb235 ≠ gb284))
                have n14_:=zm0_ ((by rw [hg];exact Nat.ne_of_gt (zo3_ (g:=gb235) (o:=.cells #[.int .i64 a0_0,.slice A0_1 l0_1.length c0_1] 47 (0,0)) (by (with_reducible repeat (first|refine k6_ ?_ _|refine k7_ ?_|refine k5_ ?_ _));exact BK235.out)) : gb284 ≠ gb235))
                have n15_:=zm0_ ((by rw [hg];exact Nat.ne_of_lt (zo3_ (g:=gb236) (o:=.cells #[.string a1_0,.string a1_1] 69 (0,0)) (by (with_reducible repeat (first|refine k6_ ?_ _|refine k7_ ?_|refine k5_ ?_ _));exact BK236.out)) : gb236 ≠ gb284))
                have n16_:=zm0_ ((by rw [hg];exact Nat.ne_of_gt (zo3_ (g:=gb236) (o:=.cells #[.string a1_0,.string a1_1] 69 (0,0)) (by (with_reducible repeat (first|refine k6_ ?_ _|refine k7_ ?_|refine k5_ ?_ _));exact BK236.out)) : gb284 ≠ gb236))
                have n17_:=zm0_ ((by rw [hg];exact Nat.ne_of_lt (zo3_ (g:=gb249) (o:=.cells #[.int .i64 t245,.slice Ao47 t246.length co47] 26 (0,0)) (by (with_reducible repeat (first|refine k6_ ?_ _|refine k7_ ?_|refine k5_ ?_ _));exact BK249.out)) : gb249 ≠ gb284))
                have n18_:=zm0_ ((by rw [hg];exact Nat.ne_of_gt (zo3_ (g:=gb249) (o:=.cells #[.int .i64 t245,.slice Ao47 t246.length co47] 26 (0,0)) (by (with_reducible repeat (first|refine k6_ ?_ _|refine k7_ ?_|refine k5_ ?_ _));exact BK249.out)) : gb284 ≠ gb249))
                have n19_:=zm0_ ((by rw [hg];exact Nat.ne_of_lt (zo3_ (g:=gb254) (o:=.cells #[.int .i64 t250,.slice Ao57 t269.length co57] 26 (0,0)) (by (with_reducible repeat (first|refine k6_ ?_ _|refine k7_ ?_|refine k5_ ?_ _));exact BK254.out)) : gb254 ≠ gb284))
                have n20_:=zm0_ ((by rw [hg];exact Nat.ne_of_gt (zo3_ (g:=gb254) (o:=.cells #[.int .i64 t250,.slice Ao57 t269.length co57] 26 (0,0)) (by (with_reducible repeat (first|refine k6_ ?_ _|refine k7_ ?_|refine k5_ ?_ _));exact BK254.out)) : gb284 ≠ gb254))
                have n21_:=zm0_ ((by rw [hg];exact Nat.ne_of_lt (zo3_ (g:=gb261) (o:=.cells #[.int .i64 t257,.slice Ao65 t258.length co65] 26 (0,0)) (by (with_reducible repeat (first|refine k6_ ?_ _|refine k7_ ?_|refine k5_ ?_ _));exact BK261.out)) : gb261 ≠ gb284))
                have n22_:=zm0_ ((by rw [hg];exact Nat.ne_of_gt (zo3_ (g:=gb261) (o:=.cells #[.int .i64 t257,.slice Ao65 t258.length co65] 26 (0,0)) (by (with_reducible repeat (first|refine k6_ ?_ _|refine k7_ ?_|refine k5_ ?_ _));exact BK261.out)) : gb284 ≠ gb261))
                clear HO_250001
                clear HO_255001
                clear HO_262001
                clear HO277
                clear BK235
                clear BK236
                clear BK249
                clear BK254
                clear BK261
                clear HB
                have HO_250001:=n0_
                have HO_255001:=n1_
                have HO_262001:=n2_
                have HO277:=n3_
                have BK235:=n4_
                have BK236:=n5_
                have BK249:=n6_
                have BK254:=n7_
                have BK261:=n8_
                have HB:=n9_
                have BK284:=n10_
                have GW284:=n11_
                have GE284:=n12_
                have NB235_284:=n13_
                have NB284_235:=n14_
                have NB236_284:=n15_
                have NB284_236:=n16_
                have NB249_284:=n17_
                have NB284_249:=n18_
                have NB254_284:=n19_
                have NB284_254:=n20_
                have NB261_284:=n21_
                have NB284_261:=n22_
                clear n0_ n1_ n2_ n3_ n4_ n5_ n6_ n7_ n8_ n9_ n10_ n11_ n12_ n13_ n14_ n15_ n16_ n17_ n18_ n19_ n20_ n21_ n22_
                clear hb hbox hg
                refine hK.out _ _ ⟨(zm6_ BK235.out 0).trans rfl,(zm6_ BK235.out 1).trans rfl,(zm6_ BK236.out 0).trans rfl,(zm6_ BK236.out 1).trans rfl⟩ (fun hHeld => ?_)
                clear hK K
                refine norm_ (a':=?_) ?_ ?_
                rotate_left
                ·
                 show Act.put _ (some 12) _ = _
                 simp only [Act.put,lA_,lB_,lC_,i64_w,i32_w]
                 rfl
                refine one_ (i:=3) (N:=some 68) #[Y,Y,Y,Y,Z,Y,Z] rfl rfl (by kernel_rfl) (by decide) (fun K hK => ?_)
                refine goes_ Try.func47 (by kernel_rfl) rfl #[.agg #[.string a1_0,.string a1_1]] (by rfl) rfl rfl (by (try simp only [zp1_,zp2_,zp3_]);first|done|rfl|(simp only [zp4_,zp5_];rfl)) ?_
                with_reducible refine (laws_toField.calls a1_0 a1_1 t278 t279 _ A99.out).mono ?_
                rintro e w117 ⟨rfl,hb⟩
                refine ⟨_,rfl,?_⟩
                have n0_:=zm0_ (zm9_ (by (with_reducible repeat (first|apply zn5_|apply zn6_|apply zn7_));exact HO_250001.out) hb)
                have n1_:=zm0_ (zm8_ (by (with_reducible repeat (first|apply k1_|apply k2_|apply k3_));exact HO_255001.out) hb)
                have n2_:=zm0_ (zm8_ (by (with_reducible repeat (first|apply k1_|apply k2_|apply k3_));exact HO_262001.out) hb)
                have n3_:=zm0_ (zm8_ (by (with_reducible repeat (first|apply k1_|apply k2_|apply k3_));exact HO277.out) hb)
                have n4_:=zm0_ (zm5_ (by (with_reducible repeat (first|refine k6_ ?_ _|refine k7_ ?_|refine k5_ ?_ _));exact BK235.out) hb)
                have n5_:=zm0_ (zm5_ (by (with_reducible repeat (first|refine k6_ ?_ _|refine k7_ ?_|refine k5_ ?_ _));exact BK236.out) hb)
                have n6_:=zm0_ (zm5_ (by (with_reducible repeat (first|refine k6_ ?_ _|refine k7_ ?_|refine k5_ ?_ _));exact BK249.out) hb)
                have n7_:=zm0_ (zm5_ (by (with_reducible repeat (first|refine k6_ ?_ _|refine k7_ ?_|refine k5_ ?_ _));exact BK254.out) hb)
                have n8_:=zm0_ (zm5_ (by (with_reducible repeat (first|refine k6_ ?_ _|refine k7_ ?_|refine k5_ ?_ _));exact BK261.out) hb)
                have n9_:=zm0_ (zm5_ (by (with_reducible repeat (first|refine k6_ ?_ _|refine k7_ ?_|refine k5_ ?_ _));exact BK284.out) hb)
                have n10_:=zm0_ (zn8_ (by repeat (first|(with_reducible first|exact HB.out|apply zm3_|apply zm2_|apply zm4_|refine zm1_ ?_ GE235.out|refine zm1_ ?_ GE236.out|refine zm1_ ?_ GE249.out|refine zm1_ ?_ GE254.out|refine zm1_ ?_ GE261.out|refine zm1_ ?_ GE284.out)|exact HB.out)) hb)
                clear HO_250001
                clear HO_255001
                clear HO_262001
                clear HO277
                clear BK235
                clear BK236
                clear BK249
                clear BK254
                clear BK261
                clear BK284
                clear HB
                have HO_250001:=n0_
                have HO_255001:=n1_
                have HO_262001:=n2_
                have HO277:=n3_
                have BK235:=n4_
                have BK236:=n5_
                have BK249:=n6_
                have BK254:=n7_
                have BK261:=n8_
                have BK284:=n9_
                have HB:=n10_
                clear n0_ n1_ n2_ n3_ n4_ n5_ n6_ n7_ n8_ n9_ n10_
                (try clear hb)
                (try clear hb2)
                (try clear hk)
                (try clear hi)
                obtain ⟨Ao118,co118,eo118⟩:=Kd.R_slice HO277.out
                (first|subst eo118|(injection eo118 with f1_ f2_ f3_;have f4_:=f1_.symm;have f5_:=f3_.symm;clear f1_ f2_ f3_;subst f4_;subst f5_))
                refine hK.out _ _ ⟨(zm6_ BK235.out 0).trans rfl,(zm6_ BK235.out 1).trans rfl,(zm6_ BK236.out 0).trans rfl,(zm6_ BK236.out 1).trans rfl⟩ (fun hHeld => ?_)
                clear hK K
                refine norm_ (a':=?_) ?_ ?_
                rotate_left
                ·
                 show Act.put _ (some 68) _ = _
                 simp only [Act.put,lA_,lB_,lC_,i64_w,i32_w]
                 rfl
                refine one_ (i:=4) (N:=some 69) #[Y,Y,Y,Y,Y,Y,Z] rfl rfl (by kernel_rfl) (by decide) (fun K hK => ?_)
                refine goes_ Try.func48 (by kernel_rfl) rfl #[.agg #[.int .i64 t274,.slice Ao118 t275.length co118],.agg #[.string t278,.string t279]] (by rfl) rfl rfl (by (try simp only [zp1_,zp2_,zp3_]);first|done|rfl|(simp only [zp4_,zp5_];rfl)) ?_
                with_reducible refine (impl_AddField.calls kj30 t274 _ _ t275 t278 t279 t280 t281 _ ?side1 ?side2 A100.out).mono ?_
                (case side1 => repeat (first|exact (Kd.R_reads' HO277.out).2.2|(with_reducible refine Kd.C_alloc ?_ _)|(with_reducible refine Kd.C_drewN ?_ _)|(with_reducible refine Kd.C_drew ?_)))
                (case side2 => exact (Kd.R_reads' HO277.out).2.1)
                rintro e w119 ⟨v282,rfl,ho0,hb⟩
                refine ⟨_,rfl,?_⟩
                have n0_:=zm0_ (Kd.V_elder' (by (with_reducible repeat (first|apply zn5_|apply zn6_|apply zn7_));exact HO_250001.out) (Kd.R_base ho0) hb)
                have n1_:=zm0_ (Kd.R_elder' (by (with_reducible repeat (first|apply k1_|apply k2_|apply k3_));exact HO_255001.out) (Kd.R_base ho0) hb)
                have n2_:=zm0_ (Kd.R_elder' (by (with_reducible repeat (first|apply k1_|apply k2_|apply k3_));exact HO_262001.out) (Kd.R_base ho0) hb)
                have n3_:=zm0_ (Kd.R_elder' (by (with_reducible repeat (first|apply k1_|apply k2_|apply k3_));exact HO277.out) (Kd.R_base ho0) hb)
                have n4_:=zm0_ (zo1_ (Kd.R_new' (Kd.R_new' (Kd.R_new' ho0 (Kd.R_lt (by (with_reducible repeat (first|apply k1_|apply k2_|apply k3_));exact HO_255001.out))) (Kd.R_lt (by (with_reducible repeat (first|apply k1_|apply k2_|apply k3_));exact HO_262001.out))) (Kd.R_lt (by (with_reducible repeat (first|apply k1_|apply k2_|apply k3_));exact HO277.out))) (zn9_ (by repeat (first|(with_reducible first|exact HB.out|apply zm3_|apply zm2_|apply zm4_|refine zm1_ ?_ GE235.out|refine zm1_ ?_ GE236.out|refine zm1_ ?_ GE249.out|refine zm1_ ?_ GE254.out|refine zm1_ ?_ GE261.out|refine zm1_ ?_ GE284.out)|exact HB.out))))
                have n5_:=zm0_ (zm5_ (by (with_reducible repeat (first|refine k6_ ?_ _|refine k7_ ?_|refine k5_ ?_ _));exact BK235.out) hb)
                have n6_:=zm0_ (zm5_ (by (with_reducible repeat (first|refine k6_ ?_ _|refine k7_ ?_|refine k5_ ?_ _));exact BK236.out) hb)
                have n7_:=zm0_ (zm5_ (by (with_reducible repeat (first|refine k6_ ?_ _|refine k7_ ?_|refine k5_ ?_ _));exact BK249.out) hb)
                have n8_:=zm0_ (zm5_ (by (with_reducible repeat (first|refine k6_ ?_ _|refine k7_ ?_|refine k5_ ?_ _));exact BK254.out) hb)
                have n9_:=zm0_ (zm5_ (by (with_reducible repeat (first|refine k6_ ?_ _|refine k7_ ?_|refine k5_ ?_ _));exact BK261.out) hb)
                have n10_:=zm0_ (zm5_ (by (with_reducible repeat (first|refine k6_ ?_ _|refine k7_ ?_|refine k5_ ?_ _));exact BK284.out) hb)
                have n11_:=zm0_ (zn8_ (by repeat (first|(with_reducible first|exact HB.out|apply zm3_|apply zm2_|apply zm4_|refine zm1_ ?_ GE235.out|refine zm1_ ?_ GE236.out|refine zm1_ ?_ GE249.out|refine zm1_ ?_ GE254.out|refine zm1_ ?_ GE261.out|refine zm1_ ?_ GE284.out)|exact HB.out)) hb)
                clear HO_250001
                clear HO_255001
                clear HO_262001
                clear HO277
                clear BK235
                clear BK236
                clear BK249
                clear BK254
                clear BK261
                clear BK284
                clear HB
                have HO_250001:=n0_
                have HO_255001:=n1_
                have HO_262001:=n2_
                have HO277:=n3_
                have HO283:=n4_
                have BK235:=n5_
                have BK236:=n6_
                have BK249:=n7_
                have BK254:=n8_
                have BK261:=n9_
                have BK284:=n10_
                have HB:=n11_
                clear n0_ n1_ n2_ n3_ n4_ n5_ n6_ n7_ n8_ n9_ n10_ n11_
                (try clear hb)
                (try clear hb2)
                (try clear hk)
                (try clear hi)
                (try clear ho0)
                refine hK.out _ _ ⟨(zm6_ BK235.out 0).trans rfl,(zm6_ BK235.out 1).trans rfl,(zm6_ BK236.out 0).trans rfl,(zm6_ BK236.out 1).trans rfl⟩ (fun hHeld => ?_)
                clear hK K
                refine norm_ (a':=?_) ?_ ?_
                rotate_left
                ·
                 show Act.put _ (some 69) _ = _
                 simp only [Act.put,lA_,lB_,lC_,i64_w,i32_w]
                 rfl
                exact norm_ (by simp only [putAll,Act.put,lA_,lB_,lC_]) (hCont (.slice Ao118 t275.length co118,v282,gb284) _ ⟨hHeld,(by (with_reducible repeat (first|apply k1_|apply k2_|apply k3_));exact zo2_ HO277.out (fun _ hk => ⟨(by first|exact hk.2|(have hq_:=hk;simp only [ne_eq] at hq_ ⊢;simp only [hq_,k8_,and_self])),⟨(by first|exact hk.1.1.2|(have hq_:=hk;simp only [ne_eq] at hq_ ⊢;simp only [hq_,k8_,and_self])),(by first|exact hk.1.2|(have hq_:=hk;simp only [ne_eq] at hq_ ⊢;simp only [hq_,k8_,and_self]))⟩⟩)),(by (with_reducible repeat (first|apply k1_|apply k2_|apply k3_));exact zo2_ HO283.out (fun _ hk => ⟨(by first|exact hk.2|(have hq_:=hk;simp only [ne_eq] at hq_ ⊢;simp only [hq_,k8_,and_self])),⟨(by first|exact hk.1.1.2|(have hq_:=hk;simp only [ne_eq] at hq_ ⊢;simp only [hq_,k8_,and_self])),(by first|exact hk.1.2|(have hq_:=hk;simp only [ne_eq] at hq_ ⊢;simp only [hq_,k8_,and_self]))⟩⟩)),(by (with_reducible repeat (first|apply zn5_|apply zn6_|apply zn7_));exact Kd.V_mono HO_250001.out (fun _ hk => ⟨(by first|exact hk.1.1.2|(have hq_:=hk;simp only [ne_eq] at hq_ ⊢;simp only [hq_,k8_,and_self])),⟨(by first|exact hk.2|(have hq_:=hk;simp only [ne_eq] at hq_ ⊢;simp only [hq_,k8_,and_self])),⟨(by first|exact hk.1.1.1.1|(have hq_:=hk;simp only [ne_eq] at hq_ ⊢;simp only [hq_,k8_,and_self])),⟨(by first|exact hk.1.1.1.2.1|(have hq_:=hk;simp only [ne_eq] at hq_ ⊢;simp only [hq_,k8_,and_self])),⟨(by first|exact hk.1.1.1.2.2.1|(have hq_:=hk;simp only [ne_eq] at hq_ ⊢;simp only [hq_,k8_,and_self])),⟨(by first|exact hk.1.1.1.2.2.2.1|(have hq_:=hk;simp only [ne_eq] at hq_ ⊢;simp only [hq_,k8_,and_self])),⟨(by first|exact hk.1.1.1.2.2.2.2.1|(have hq_:=hk;simp only [ne_eq] at hq_ ⊢;simp only [hq_,k8_,and_self])),⟨(by first|exact hk.1.1.1.2.2.2.2.2.1|(have hq_:=hk;simp only [ne_eq] at hq_ ⊢;simp only [hq_,k8_,and_self])),⟨(by first|exact hk.1.1.1.2.2.2.2.2.2|(have hq_:=hk;simp only [ne_eq] at hq_ ⊢;simp only [hq_,k8_,and_self])),(by first|exact hk.1.2|(have hq_:=hk;simp only [ne_eq] at hq_ ⊢;simp only [hq_,k8_,and_self]))⟩⟩⟩⟩⟩⟩⟩⟩⟩)),(by (with_reducible repeat (first|apply k1_|apply k2_|apply k3_));exact zo2_ HO_255001.out (fun _ hk => ⟨(by first|exact hk.1.2|(have hq_:=hk;simp only [ne_eq] at hq_ ⊢;simp only [hq_,k8_,and_self])),⟨(by first|exact hk.2|(have hq_:=hk;simp only [ne_eq] at hq_ ⊢;simp only [hq_,k8_,and_self])),(by first|exact hk.1.1|(have hq_:=hk;simp only [ne_eq] at hq_ ⊢;simp only [hq_,k8_,and_self]))⟩⟩)),(by (with_reducible repeat (first|apply k1_|apply k2_|apply k3_));exact zo2_ HO_262001.out (fun _ hk => ⟨(by first|exact hk.1.2|(have hq_:=hk;simp only [ne_eq] at hq_ ⊢;simp only [hq_,k8_,and_self])),⟨(by first|exact hk.2|(have hq_:=hk;simp only [ne_eq] at hq_ ⊢;simp only [hq_,k8_,and_self])),(by first|exact hk.1.1|(have hq_:=hk;simp only [ne_eq] at hq_ ⊢;simp only [hq_,k8_,and_self]))⟩⟩)),(by (with_reducible repeat (first|refine k6_ ?_ _|refine k7_ ?_|refine k5_ ?_ _));exact BK235.out),(by (with_reducible repeat (first|refine k6_ ?_ _|refine k7_ ?_|refine k5_ ?_ _));exact BK236.out),(by (with_reducible repeat (first|refine k6_ ?_ _|refine k7_ ?_|refine k5_ ?_ _));exact BK249.out),(by (with_reducible repeat (first|refine k6_ ?_ _|refine k7_ ?_|refine k5_ ?_ _));exact BK254.out),(by (with_reducible repeat (first|refine k6_ ?_ _|refine k7_ ?_|refine k5_ ?_ _));exact BK261.out),(by (with_reducible repeat (first|refine k6_ ?_ _|refine k7_ ?_|refine k5_ ?_ _));exact BK284.out),GW284.out,GE284.out,NB235_284.out,NB284_235.out,NB236_284.out,NB284_236.out,NB249_284.out,NB284_249.out,NB254_284.out,NB284_254.out,NB261_284.out,NB284_261.out,(by repeat (first|(with_reducible first|exact HB.out|apply zm3_|apply zm2_|apply zm4_|refine zm1_ ?_ GE235.out|refine zm1_ ?_ GE236.out|refine zm1_ ?_ GE249.out|refine zm1_ ?_ GE254.out|refine zm1_ ?_ GE261.out|refine zm1_ ?_ GE284.out)|exact HB.out))⟩)
              ·
               skip
               refine box_step ?hg (N:=12) ?hd (cs:=#[.int .i64 0,.slice none 0 0]) (t:=26) ?hr ?_;(case hd => rfl);(case hg => rfl);(case hr => first|(go_simp;done)|(go_simp;rfl))
               intro gb284 hg w115 hbox hb
               have n0_:=zm0_ (zm9_ (Kd.V_elderB (by (with_reducible repeat (first|apply zn5_|apply zn6_|apply zn7_));exact HO_250001.out) gb284 (Nat.le_of_eq hg.symm)) hb)
               have n1_:=zm0_ (zm8_ (by (with_reducible repeat (first|apply k1_|apply k2_|apply k3_));exact HO_255001.out) hb)
               have n2_:=zm0_ (zm8_ (by (with_reducible repeat (first|apply k1_|apply k2_|apply k3_));exact HO_262001.out) hb)
               have n3_:=zm0_ (zm5_ (by (with_reducible repeat (first|refine k6_ ?_ _|refine k7_ ?_|refine k5_ ?_ _));exact BK235.out) hb)
               have n4_:=zm0_ (zm5_ (by (with_reducible repeat (first|refine k6_ ?_ _|refine k7_ ?_|refine k5_ ?_ _));exact BK236.out) hb)
               have n5_:=zm0_ (zm5_ (by (with_reducible repeat (first|refine k6_ ?_ _|refine k7_ ?_|refine k5_ ?_ _));exact BK249.out) hb)
               have n6_:=zm0_ (zm5_ (by (with_reducible repeat (first|refine k6_ ?_ _|refine k7_ ?_|refine k5_ ?_ _));exact BK254.out) hb)
               have n7_:=zm0_ (zm5_ (by (with_reducible repeat (first|refine k6_ ?_ _|refine k7_ ?_|refine k5_ ?_ _));exact BK261.out) hb)
               have n8_:=zm0_ (zn8_ (by repeat (first|(with_reducible first|exact HB.out|apply zm3_|apply zm2_|apply zm4_|refine zm1_ ?_ GE235.out|refine zm1_ ?_ GE236.out|refine zm1_ ?_ GE249.out|refine zm1_ ?_ GE254.out|refine zm1_ ?_ GE261.out)|exact HB.out)) hb)
               have n9_:=zm0_ (hbox)
               have n10_:=zm0_ ((by rw [hg];exact (zn9_ (by repeat (first|(with_reducible first|exact HB.out|apply zm3_|apply zm2_|apply zm4_|refine zm1_ ?_ GE235.out|refine zm1_ ?_ GE236.out|refine zm1_ ?_ GE249.out|refine zm1_ ?_ GE254.out|refine zm1_ ?_ GE261.out)|exact HB.out))) : w.heap.size ≤ gb284))
               have n11_:=zm0_ ((by rw [hg];exact (zn9_ (by repeat (first|(with_reducible first|exact HB.out|apply zm3_|apply zm2_|apply zm4_|refine zm1_ ?_ GE235.out|refine zm1_ ?_ GE236.out|refine zm1_ ?_ GE249.out|refine zm1_ ?_ GE254.out|refine zm1_ ?_ GE261.out)|exact HB.out))) : w.heap.size ≤ gb284))
               have n12_:=zm0_ ((by rw [hg];exact Nat.ne_of_lt (zo3_ (g:=gb235) (o:=.cells #[.int .i64 a0_0,.slice A0_1 l0_1.length c0_1] 47 (0,0)) (by (with_reducible repeat (first|refine k6_ ?_ _|refine k7_ ?_|refine k5_ ?_ _));exact BK235.out)) : gb235 ≠ gb284))
               have n13_:=zm0_ ((by rw [hg];exact Nat.ne_of_gt (zo3_ (g:=gb235) (o:=.cells #[.int .i64 a0_0,.slice A0_1 l0_1.length c0_1] 47 (0,0)) (by (with_reducible repeat (first|refine k6_ ?_ _|refine k7_ ?_|refine k5_ ?_ _));exact BK235.out)) : gb284 ≠ gb235))
               have n14_:=zm0_ ((by rw [hg];exact Nat.ne_of_lt (zo3_ (g:=gb236) (o:=.cells #[.string a1_0,.string a1_1] 69 (0,0)) (by (with_reducible repeat (first|refine k6_ ?_ _|refine k7_ ?_|refine k5_ ?_ _));exact BK236.out)) : gb236 ≠ gb284))
               have n15_:=zm0_ ((by rw [hg];exact Nat.ne_of_gt (zo3_ (g:=gb236) (o:=.cells #[.string a1_0,.string a1_1] 69 (0,0)) (by (with_reducible repeat (first|refine k6_ ?_ _|refine k7_ ?_|refine k5_ ?_ _));exact BK236.out)) : gb284 ≠ gb236))
               have n16_:=zm0_ ((by rw [hg];exact Nat.ne_of_lt (zo3_ (g:=gb249) (o:=.cells #[.int .i64 t245,.slice Ao47 t246.length co47] 26 (0,0)) (by (with_reducible repeat (first|refine k6_ ?_ _|refine k7_ ?_|refine k5_ ?_ _));exact BK249.out)) : gb249 ≠ gb284))
               have n17_:=zm0_ ((by rw [hg];exact Nat.ne_of_gt (zo3_ (g:=gb249) (o:=.cells #[.int .i64 t245,.slice Ao47 t246.length co47] 26 (0,0)) (by (with_reducible repeat (first|refine k6_ ?_ _|refine k7_ ?_|refine k5_ ?_ _));exact BK249.out)) : gb284 ≠ gb249))
               have n18_:=zm0_ ((by rw [hg];exact Nat.ne_of_lt (zo3_ (g:=gb254) (o:=.cells #[.int .i64 t250,.slice Ao57 t269.length co57] 26 (0,0)) (by (with_reducible repeat (first|refine k6_ ?_ _|refine k7_ ?_|refine k5_ ?_ _));exact BK254.out)) : gb254 ≠ gb284))
               have n19_:=zm0_ ((by rw [hg];exact Nat.ne_of_gt (zo3_ (g:=gb254) (o:=.cells #[.int .i64 t250,.slice Ao57 t269.length co57] 26 (0,0)) (by (with_reducible repeat (first|refine k6_ ?_ _|refine k7_ ?_|refine k5_ ?_ _));exact BK254.out)) : gb284 ≠ gb254))
               have n20_:=zm0_ ((by rw [hg];exact Nat.ne_of_lt (zo3_ (g:=gb261) (o:=.cells #[.int .i64 t257,.slice Ao65 t258.length co65] 26 (0,0)) (by (with_reducible repeat (first|refine k6_ ?_ _|refine k7_ ?_|refine k5_ ?_ _));exact BK261.out)) : gb261 ≠ gb284))
               have n21_:=zm0_ ((by rw [hg];exact Nat.ne_of_gt (zo3_ (g:=gb261) (o:=.cells #[.int .i64 t257,.slice Ao65 t258.length co65] 26 (0,0)) (by (with_reducible repeat (first|refine k6_ ?_ _|refine k7_ ?_|refine k5_ ?_ _));exact BK261.out)) : gb284 ≠ gb261))
               clear HO_250001
               clear HO_255001
               clear HO_262001
               clear BK235
               clear BK236
               clear BK249
               clear BK254
               clear BK261
               clear HB
               have HO_250001:=n0_
               have HO_255001:=n1_
               have HO_262001:=n2_
               have BK235:=n3_
               have BK236:=n4_
               have BK249:=n5_
               have BK254:=n6_
               have BK261:=n7_
               have HB:=n8_
               have BK284:=n9_
               have GW284:=n10_
               have GE284:=n11_
               have NB235_284:=n12_
               have NB284_235:=n13_
               have NB236_284:=n14_
               have NB284_236:=n15_
               have NB249_284:=n16_
               have NB284_249:=n17_
               have NB254_284:=n18_
               have NB284_254:=n19_
               have NB261_284:=n20_
               have NB284_261:=n21_
               clear n0_ n1_ n2_ n3_ n4_ n5_ n6_ n7_ n8_ n9_ n10_ n11_ n12_ n13_ n14_ n15_ n16_ n17_ n18_ n19_ n20_ n21_
               clear hb hbox hg
               refine hK.out _ _ ⟨(zm6_ BK235.out 0).trans rfl,(zm6_ BK235.out 1).trans rfl,(zm6_ BK236.out 0).trans rfl,(zm6_ BK236.out 1).trans rfl⟩ (fun hHeld => ?_)
               clear hK K
               refine norm_ (a':=?_) ?_ ?_
               rotate_left
               ·
                show Act.put _ (some 12) _ = _
                simp only [Act.put,lA_,lB_,lC_,i64_w,i32_w]
                rfl
               refine one_ (i:=1) (N:=some 66) #[Y,Y,Y,Z,Z,Y,Z] rfl rfl (by kernel_rfl) (by decide) (fun K hK => ?_)
               refine goes_ Try.func29 (by kernel_rfl) rfl #[.agg #[.int .i64 a0_0,.slice A0_1 l0_1.length c0_1]] (by rfl) rfl rfl (by (try simp only [zp1_,zp2_,zp3_]);first|done|rfl|(simp only [zp4_,zp5_];rfl)) ?_
               with_reducible refine (laws_toTable.calls kj30 a0_0 _ _ l0_1 t274 t275 _ ?side1 ?side2 A98.out).mono ?_
               (case side1 => repeat (first|exact (Kd.C_below HR0_1.out HB.out)|(with_reducible refine Kd.C_alloc ?_ _)|(with_reducible refine Kd.C_drewN ?_ _)|(with_reducible refine Kd.C_drew ?_)))
               (case side2 => exact HC0_1.out)
               rintro e w116 ⟨v276,rfl,ho0,hb⟩
               refine ⟨_,rfl,?_⟩
               have n0_:=zm0_ (Kd.V_elder' (by (with_reducible repeat (first|apply zn5_|apply zn6_|apply zn7_));exact HO_250001.out) (Kd.R_base ho0) hb)
               have n1_:=zm0_ (Kd.R_elder' (by (with_reducible repeat (first|apply k1_|apply k2_|apply k3_));exact HO_255001.out) (Kd.R_base ho0) hb)
               have n2_:=zm0_ (Kd.R_elder' (by (with_reducible repeat (first|apply k1_|apply k2_|apply k3_));exact HO_262001.out) (Kd.R_base ho0) hb)
               have n3_:=zm0_ (zo1_ (Kd.R_new' (Kd.R_new' ho0 (Kd.R_lt (by (with_reducible repeat (first|apply k1_|apply k2_|apply k3_));exact HO_255001.out))) (Kd.R_lt (by (with_reducible repeat (first|apply k1_|apply k2_|apply k3_));exact HO_262001.out))) (zn9_ (by repeat (first|(with_reducible first|exact HB.out|apply zm3_|apply zm2_|apply zm4_|refine zm1_ ?_ GE235.out|refine zm1_ ?_ GE236.out|refine zm1_ ?_ GE249.out|refine zm1_ ?_ GE254.out|refine zm1_ ?_ GE261.out|refine zm1_ ?_ GE284.out)|exact HB.out))))
               have n4_:=zm0_ (zm5_ (by (with_reducible repeat (first|refine k6_ ?_ _|refine k7_ ?_|refine k5_ ?_ _));exact BK235.out) hb)
               have n5_:=zm0_ (zm5_ (by (with_reducible repeat (first|refine k6_ ?_ _|refine k7_ ?_|refine k5_ ?_ _));exact BK236.out) hb)
               have n6_:=zm0_ (zm5_ (by (with_reducible repeat (first|refine k6_ ?_ _|refine k7_ ?_|refine k5_ ?_ _));exact BK249.out) hb)
               have n7_:=zm0_ (zm5_ (by (with_reducible repeat (first|refine k6_ ?_ _|refine k7_ ?_|refine k5_ ?_ _));exact BK254.out) hb)
               have n8_:=zm0_ (zm5_ (by (with_reducible repeat (first|refine k6_ ?_ _|refine k7_ ?_|refine k5_ ?_ _));exact BK261.out) hb)
               have n9_:=zm0_ (zm5_ (by (with_reducible repeat (first|refine k6_ ?_ _|refine k7_ ?_|refine k5_ ?_ _));exact BK284.out) hb)
               have n10_:=zm0_ (zn8_ (by repeat (first|(with_reducible first|exact HB.out|apply zm3_|apply zm2_|apply zm4_|refine zm1_ ?_ GE235.out|refine zm1_ ?_ GE236.out|refine zm1_ ?_ GE249.out|refine zm1_ ?_ GE254.out|refine zm1_ ?_ GE261.out|refine zm1_ ?_ GE284.out)|exact HB.out)) hb)
               clear HO_250001
               clear HO_255001
               clear HO_262001
               clear BK235
               clear BK236
               clear BK249
               clear BK254
               clear BK261
               clear BK284
               clear HB
               have HO_250001:=n0_
               have HO_255001:=n1_
               have HO_262001:=n2_
               have HO277:=n3_
               have BK235:=n4_
               have BK236:=n5_
               have BK249:=n6_
               have BK254:=n7_
               have BK261:=n8_
               have BK284:=n9_
               have HB:=n10_
               clear n0_ n1_ n2_ n3_ n4_ n5_ n6_ n7_ n8_ n9_ n10_
               (try clear hb)
               (try clear hb2)
               (try clear hk)
               (try clear hi)
               (try clear ho0)
               refine hK.out _ _ ⟨(zm6_ BK235.out 0).trans rfl,(zm6_ BK235.out 1).trans rfl,(zm6_ BK236.out 0).trans rfl,(zm6_ BK236.out 1).trans rfl⟩ (fun hHeld => ?_)
               clear hK K
               refine norm_ (a':=?_) ?_ ?_
               rotate_left
               ·
                show Act.put _ (some 66) _ = _
                simp only [Act.put,lA_,lB_,lC_,i64_w,i32_w]
                rfl
               refine one_ (i:=3) (N:=some 68) #[Y,Y,Y,Y,Z,Y,Z] rfl rfl (by kernel_rfl) (by decide) (fun K hK => ?_)
               refine goes_ Try.func47 (by kernel_rfl) rfl #[.agg #[.string a1_0,.string a1_1]] (by rfl) rfl rfl (by (try simp only [zp1_,zp2_,zp3_]);first|done|rfl|(simp only [zp4_,zp5_];rfl)) ?_
               with_reducible refine (laws_toField.calls a1_0 a1_1 t278 t279 _ A99.out).mono ?_
               rintro e w117 ⟨rfl,hb⟩
               refine ⟨_,rfl,?_⟩
               have n0_:=zm0_ (zm9_ (by (with_reducible repeat (first|apply zn5_|apply zn6_|apply zn7_));exact HO_250001.out) hb)
               have n1_:=zm0_ (zm8_ (by (with_reducible repeat (first|apply k1_|apply k2_|apply k3_));exact HO_255001.out) hb)
               have n2_:=zm0_ (zm8_ (by (with_reducible repeat (first|apply k1_|apply k2_|apply k3_));exact HO_262001.out) hb)
               have n3_:=zm0_ (zm8_ (by (with_reducible repeat (first|apply k1_|apply k2_|apply k3_));exact HO277.out) hb)
               have n4_:=zm0_ (zm5_ (by (with_reducible repeat (first|refine k6_ ?_ _|refine k7_ ?_|refine k5_ ?_ _));exact BK235.out) hb)
               have n5_:=zm0_ (zm5_ (by (with_reducible repeat (first|refine k6_ ?_ _|refine k7_ ?_|refine k5_ ?_ _));exact BK236.out) hb)
               have n6_:=zm0_ (zm5_ (by (with_reducible repeat (first|refine k6_ ?_ _|refine k7_ ?_|refine k5_ ?_ _));exact BK249.out) hb)
               have n7_:=zm0_ (zm5_ (by (with_reducible repeat (first|refine k6_ ?_ _|refine k7_ ?_|refine k5_ ?_ _));exact BK254.out) hb)
               have n8_:=zm0_ (zm5_ (by (with_reducible repeat (first|refine k6_ ?_ _|refine k7_ ?_|refine k5_ ?_ _));exact BK261.out) hb)
               have n9_:=zm0_ (zm5_ (by (with_reducible repeat (first|refine k6_ ?_ _|refine k7_ ?_|refine k5_ ?_ _));exact BK284.out) hb)
               have n10_:=zm0_ (zn8_ (by repeat (first|(with_reducible first|exact HB.out|apply zm3_|apply zm2_|apply zm4_|refine zm1_ ?_ GE235.out|refine zm1_ ?_ GE236.out|refine zm1_ ?_ GE249.out|refine zm1_ ?_ GE254.out|refine zm1_ ?_ GE261.out|refine zm1_ ?_ GE284.out)|exact HB.out)) hb)
               clear HO_250001
               clear HO_255001
               clear HO_262001
               clear HO277
               clear BK235
               clear BK236
               clear BK249
               clear BK254
               clear BK261
               clear BK284
               clear HB
               have HO_250001:=n0_
               have HO_255001:=n1_
               have HO_262001:=n2_
               have HO277:=n3_
               have BK235:=n4_
               have BK236:=n5_
               have BK249:=n6_
               have BK254:=n7_
               have BK261:=n8_
               have BK284:=n9_
               have HB:=n10_
               clear n0_ n1_ n2_ n3_ n4_ n5_ n6_ n7_ n8_ n9_ n10_
               (try clear hb)
               (try clear hb2)
               (try clear hk)
               (try clear hi)
               obtain ⟨Ao118,co118,eo118⟩:=Kd.R_slice HO277.out
               (first|subst eo118|(injection eo118 with f1_ f2_ f3_;have f4_:=f1_.symm;have f5_:=f3_.symm;clear f1_ f2_ f3_;subst f4_;subst f5_))
               refine hK.out _ _ ⟨(zm6_ BK235.out 0).trans rfl,(zm6_ BK235.out 1).trans rfl,(zm6_ BK236.out 0).trans rfl,(zm6_ BK236.out 1).trans rfl⟩ (fun hHeld => ?_)
               clear hK K
               refine norm_ (a':=?_) ?_ ?_
               rotate_left
               ·
                show Act.put _ (some 68) _ = _
                simp only [Act.put,lA_,lB_,lC_,i64_w,i32_w]
                rfl
               refine one_ (i:=4) (N:=some 69) #[Y,Y,Y,Y,Y,Y,Z] rfl rfl (by kernel_rfl) (by decide) (fun K hK => ?_)
               refine goes_ Try.func48 (by kernel_rfl) rfl #[.agg #[.int .i64 t274,.slice Ao118 t275.length co118],.agg #[.string t278,.string t279]] (by rfl) rfl rfl (by (try simp only [zp1_,zp2_,zp3_]);first|done|rfl|(simp only [zp4_,zp5_];rfl)) ?_
               with_reducible refine (impl_AddField.calls kj30 t274 _ _ t275 t278 t279 t280 t281 _ ?side1 ?side2 A100.out).mono ?_
               (case side1 => repeat (first|exact (Kd.R_reads' HO277.out).2.2|(with_reducible refine Kd.C_alloc ?_ _)|(with_reducible refine Kd.C_drewN ?_ _)|(with_reducible refine Kd.C_drew ?_)))
               (case side2 => exact (Kd.R_reads' HO277.out).2.1)
               rintro e w119 ⟨v282,rfl,ho0,hb⟩
               refine ⟨_,rfl,?_⟩
               have n0_:=zm0_ (Kd.V_elder' (by (with_reducible repeat (first|apply zn5_|apply zn6_|apply zn7_));exact HO_250001.out) (Kd.R_base ho0) hb)
               have n1_:=zm0_ (Kd.R_elder' (by (with_reducible repeat (first|apply k1_|apply k2_|apply k3_));exact HO_255001.out) (Kd.R_base ho0) hb)
               have n2_:=zm0_ (Kd.R_elder' (by (with_reducible repeat (first|apply k1_|apply k2_|apply k3_));exact HO_262001.out) (Kd.R_base ho0) hb)
               have n3_:=zm0_ (Kd.R_elder' (by (with_reducible repeat (first|apply k1_|apply k2_|apply k3_));exact HO277.out) (Kd.R_base ho0) hb)
               have n4_:=zm0_ (zo1_ (Kd.R_new' (Kd.R_new' (Kd.R_new' ho0 (Kd.R_lt (by (with_reducible repeat (first|apply k1_|apply k2_|apply k3_));exact HO_255001.out))) (Kd.R_lt (by (with_reducible repeat (first|apply k1_|apply k2_|apply k3_));exact HO_262001.out))) (Kd.R_lt (by (with_reducible repeat (first|apply k1_|apply k2_|apply k3_));exact HO277.out))) (zn9_ (by repeat (first|(with_reducible first|exact HB.out|apply zm3_|apply zm2_|apply zm4_|refine zm1_ ?_ GE235.out|refine zm1_ ?_ GE236.out|refine zm1_ ?_ GE249.out|refine zm1_ ?_ GE254.out|refine zm1_ ?_ GE261.out|refine zm1_ ?_ GE284.out)|exact HB.out))))
               have n5_:=zm0_ (zm5_ (by (with_reducible repeat (first|refine k6_ ?_ _|refine k7_ ?_|refine k5_ ?_ _));exact BK235.out) hb)
               have n6_:=zm0_ (zm5_ (by (with_reducible repeat (first|refine k6_ ?_ _|refine k7_ ?_|refine k5_ ?_ _));exact BK236.out) hb)
               have n7_:=zm0_ (zm5_ (by (with_reducible repeat (first|refine k6_ ?_ _|refine k7_ ?_|refine k5_ ?_ _));exact BK249.out) hb)
               have n8_:=zm0_ (zm5_ (by (with_reducible repeat (first|refine k6_ ?_ _|refine k7_ ?_|refine k5_ ?_ _));exact BK254.out) hb)
               have n9_:=zm0_ (zm5_ (by (with_reducible repeat (first|refine k6_ ?_ _|refine k7_ ?_|refine k5_ ?_ _));exact BK261.out) hb)
               have n10_:=zm0_ (zm5_ (by (with_reducible repeat (first|refine k6_ ?_ _|refine k7_ ?_|refine k5_ ?_ _));exact BK284.out) hb)
               have n11_:=zm0_ (zn8_ (by repeat (first|(with_reducible first|exact HB.out|apply zm3_|apply zm2_|apply zm4_|refine zm1_ ?_ GE235.out|refine zm1_ ?_ GE236.out|refine zm1_ ?_ GE249.out|refine zm1_ ?_ GE254.out|refine zm1_ ?_ GE261.out|refine zm1_ ?_ GE284.out)|exact HB.out)) hb)
               clear HO_250001
               clear HO_255001
               clear HO_262001
               clear HO277
               clear BK235
               clear BK236
               clear BK249
               clear BK254
               clear BK261
               clear BK284
               clear HB
               have HO_250001:=n0_
               have HO_255001:=n1_
               have HO_262001:=n2_
               have HO277:=n3_
               have HO283:=n4_
               have BK235:=n5_
               have BK236:=n6_
               have BK249:=n7_
               have BK254:=n8_
               have BK261:=n9_
               have BK284:=n10_
               have HB:=n11_
               clear n0_ n1_ n2_ n3_ n4_ n5_ n6_ n7_ n8_ n9_ n10_ n11_
               (try clear hb)
               (try clear hb2)
               (try clear hk)
               (try clear hi)
               (try clear ho0)
               refine hK.out _ _ ⟨(zm6_ BK235.out 0).trans rfl,(zm6_ BK235.out 1).trans rfl,(zm6_ BK236.out 0).trans rfl,(zm6_ BK236.out 1).trans rfl⟩ (fun hHeld => ?_)
               clear hK K
               refine norm_ (a':=?_) ?_ ?_
               rotate_left
               ·
                show Act.put _ (some 69) _ = _
                simp only [Act.put,lA_,lB_,lC_,i64_w,i32_w]
                rfl
               exact norm_ (by simp only [putAll,Act.put,lA_,lB_,lC_]) (hCont (.slice Ao118 t275.length co118,v282,gb284) _ ⟨hHeld,(by (with_reducible repeat (first|apply k1_|apply k2_|apply k3_));exact zo2_ HO277.out (fun _ hk => ⟨(by first|exact hk.2|(have hq_:=hk;simp only [ne_eq] at hq_ ⊢;simp only [hq_,k8_,and_self])),⟨(by first|exact hk.1.1.2|(have hq_:=hk;simp only [ne_eq] at hq_ ⊢;simp only [hq_,k8_,and_self])),(by first|exact hk.1.2|(have hq_:=hk;simp only [ne_eq] at hq_ ⊢;simp only [hq_,k8_,and_self]))⟩⟩)),(by (with_reducible repeat (first|apply k1_|apply k2_|apply k3_));exact zo2_ HO283.out (fun _ hk => ⟨(by first|exact hk.2|(have hq_:=hk;simp only [ne_eq] at hq_ ⊢;simp only [hq_,k8_,and_self])),⟨(by first|exact hk.1.1.2|(have hq_:=hk;simp only [ne_eq] at hq_ ⊢;simp only [hq_,k8_,and_self])),(by first|exact hk.1.2|(have hq_:=hk;simp only [ne_eq] at hq_ ⊢;simp only [hq_,k8_,and_self]))⟩⟩)),(by (with_reducible repeat (first|apply zn5_|apply zn6_|apply zn7_));exact Kd.V_mono HO_250001.out (fun _ hk => ⟨(by first|exact hk.1.2|(have hq_:=hk;simp only [ne_eq] at hq_ ⊢;simp only [hq_,k8_,and_self])),⟨(by first|exact hk.2|(have hq_:=hk;simp only [ne_eq] at hq_ ⊢;simp only [hq_,k8_,and_self])),⟨(by first|exact hk.1.1.1.1|(have hq_:=hk;simp only [ne_eq] at hq_ ⊢;simp only [hq_,k8_,and_self])),⟨(by first|exact hk.1.1.1.2.1|(have hq_:=hk;simp only [ne_eq] at hq_ ⊢;simp only [hq_,k8_,and_self])),⟨(by first|exact hk.1.1.1.2.2.1|(have hq_:=hk;simp only [ne_eq] at hq_ ⊢;simp only [hq_,k8_,and_self])),⟨(by first|exact hk.1.1.1.2.2.2.1|(have hq_:=hk;simp only [ne_eq] at hq_ ⊢;simp only [hq_,k8_,and_self])),⟨(by first|exact hk.1.1.1.2.2.2.2.1|(have hq_:=hk;simp only [ne_eq] at hq_ ⊢;simp only [hq_,k8_,and_self])),⟨(by first|exact hk.1.1.1.2.2.2.2.2.1|(have hq_:=hk;simp only [ne_eq] at hq_ ⊢;simp only [hq_,k8_,and_self])),⟨(by first|exact hk.1.1.1.2.2.2.2.2.2|(have hq_:=hk;simp only [ne_eq] at hq_ ⊢;simp only [hq_,k8_,and_self])),(by first|exact hk.1.1.2|(have hq_:=hk;simp only [ne_eq] at hq_ ⊢;simp only [hq_,k8_,and_self]))⟩⟩⟩⟩⟩⟩⟩⟩⟩)),(by (with_reducible repeat (first|apply k1_|apply k2_|apply k3_));exact zo2_ HO_255001.out (fun _ hk => ⟨(by first|exact hk.1.2|(have hq_:=hk;simp only [ne_eq] at hq_ ⊢;simp only [hq_,k8_,and_self])),⟨(by first|exact hk.2|(have hq_:=hk;simp only [ne_eq] at hq_ ⊢;simp only [hq_,k8_,and_self])),(by first|exact hk.1.1|(have hq_:=hk;simp only [ne_eq] at hq_ ⊢;simp only [hq_,k8_,and_self]))⟩⟩)),(by (with_reducible repeat (first|apply k1_|apply k2_|apply k3_));exact zo2_ HO_262001.out (fun _ hk => ⟨(by first|exact hk.1.2|(have hq_:=hk;simp only [ne_eq] at hq_ ⊢;simp only [hq_,k8_,and_self])),⟨(by first|exact hk.2|(have hq_:=hk;simp only [ne_eq] at hq_ ⊢;simp only [hq_,k8_,and_self])),(by first|exact hk.1.1|(have hq_:=hk;simp only [ne_eq] at hq_ ⊢;simp only [hq_,k8_,and_self]))⟩⟩)),(by (with_reducible repeat (first|refine k6_ ?_ _|refine k7_ ?_|refine k5_ ?_ _));exact BK235.out),(by (with_reducible repeat (first|refine k6_ ?_ _|refine k7_ ?_|refine k5_ ?_ _));exact BK236.out),(by (with_reducible repeat (first|refine k6_ ?_ _|refine k7_ ?_|refine k5_ ?_ _));exact BK249.out),(by (with_reducible repeat (first|refine k6_ ?_ _|refine k7_ ?_|refine k5_ ?_ _));exact BK254.out),(by (with_reducible repeat (first|refine k6_ ?_ _|refine k7_ ?_|refine k5_ ?_ _));exact BK261.out),(by (with_reducible repeat (first|refine k6_ ?_ _|refine k7_ ?_|refine k5_ ?_ _));exact BK284.out),GW284.out,GE284.out,NB235_284.out,NB284_235.out,NB236_284.out,NB284_236.out,NB249_284.out,NB284_249.out,NB254_284.out,NB284_254.out,NB261_284.out,NB284_261.out,(by repeat (first|(with_reducible first|exact HB.out|apply zm3_|apply zm2_|apply zm4_|refine zm1_ ?_ GE235.out|refine zm1_ ?_ GE236.out|refine zm1_ ?_ GE249.out|refine zm1_ ?_ GE254.out|refine zm1_ ?_ GE261.out|refine zm1_ ?_ GE284.out)|exact HB.out))⟩)
             rintro ⟨v276,v282,gb284⟩ w120 ⟨hS_,h0_,h1_,h2_,h3_,h4_,h5_,h6_,h7_,h8_,h9_,h10_,h11_,h12_,h13_,h14_,h15_,h16_,h17_,h18_,h19_,h20_,h21_,h22_,h23_⟩
             have n0_ : Aside0 (Kd.R k33 33 w120 w.heap.size (fun k_ => some k_ ≠ (v282 : Value).ownBlock ∧ some k_ ≠ (.slice Ao57 t269.length co57 : Value).ownBlock ∧ some k_ ≠ (.slice Ao65 t258.length co65 : Value).ownBlock) v276 t275):=⟨h0_⟩
             have n1_ : Aside0 (Kd.R k33 33 w120 w.heap.size (fun k_ => some k_ ≠ (v276 : Value).ownBlock ∧ some k_ ≠ (.slice Ao57 t269.length co57 : Value).ownBlock ∧ some k_ ≠ (.slice Ao65 t258.length co65 : Value).ownBlock) v282 t281):=⟨h1_⟩
             have n2_ : Aside0 (Kd.V k33 33 w120 w.heap.size (fun k_ => some k_ ≠ (v276 : Value).ownBlock ∧ some k_ ≠ (v282 : Value).ownBlock ∧ some k_ ≠ (.slice Ao57 t269.length co57 : Value).ownBlock ∧ some k_ ≠ (.slice Ao65 t258.length co65 : Value).ownBlock ∧ k_ ≠ gb235 ∧ k_ ≠ gb236 ∧ k_ ≠ gb249 ∧ k_ ≠ gb254 ∧ k_ ≠ gb261 ∧ k_ ≠ gb284) (.slice Ao47 t246.length co47) t246):=⟨h2_⟩
             have n3_ : Aside0 (Kd.R k33 33 w120 w.heap.size (fun k_ => some k_ ≠ (v276 : Value).ownBlock ∧ some k_ ≠ (v282 : Value).ownBlock ∧ some k_ ≠ (.slice Ao65 t258.length co65 : Value).ownBlock) (.slice Ao57 t269.length co57) t269):=⟨h3_⟩
             have n4_ : Aside0 (Kd.R k33 33 w120 w.heap.size (fun k_ => some k_ ≠ (v276 : Value).ownBlock ∧ some k_ ≠ (v282 : Value).ownBlock ∧ some k_ ≠ (.slice Ao57 t269.length co57 : Value).ownBlock) (.slice Ao65 t258.length co65) t272):=⟨h4_⟩
             have n5_ : Aside0 (w120.heap[gb235]? = some (.cells #[.int .i64 a0_0,.slice A0_1 l0_1.length c0_1] 47 (0,0))):=⟨h5_⟩
             have n6_ : Aside0 (w120.heap[gb236]? = some (.cells #[.string a1_0,.string a1_1] 69 (0,0))):=⟨h6_⟩
             have n7_ : Aside0 (w120.heap[gb249]? = some (.cells #[.int .i64 t245,.slice Ao47 t246.length co47] 26 (0,0))):=⟨h7_⟩
             have n8_ : Aside0 (w120.heap[gb254]? = some (.cells #[.int .i64 t250,.slice Ao57 t269.length co57] 26 (0,0))):=⟨h8_⟩
             have n9_ : Aside0 (w120.heap[gb261]? = some (.cells #[.int .i64 t257,.slice Ao65 t258.length co65] 26 (0,0))):=⟨h9_⟩
             have n10_ : Aside0 (w120.heap[gb284]? = some (.cells #[.int .i64 0,.slice none 0 0] 26 (0,0))):=⟨h10_⟩
             have n11_ : Aside0 (w.heap.size ≤ gb284):=⟨h11_⟩
             have n12_ : Aside0 (w.heap.size ≤ gb284):=⟨h12_⟩
             have n13_ : Aside0 (gb235 ≠ gb284):=⟨h13_⟩
             have n14_ : Aside0 (gb284 ≠ gb235):=⟨h14_⟩
             have n15_ : Aside0 (gb236 ≠ gb284):=⟨h15_⟩
             have n16_ : Aside0 (gb284 ≠ gb236):=⟨h16_⟩
             have n17_ : Aside0 (gb249 ≠ gb284):=⟨h17_⟩
             have n18_ : Aside0 (gb284 ≠ gb249):=⟨h18_⟩
             have n19_ : Aside0 (gb254 ≠ gb284):=⟨h19_⟩
             have n20_ : Aside0 (gb284 ≠ gb254):=⟨h20_⟩
             have n21_ : Aside0 (gb261 ≠ gb284):=⟨h21_⟩
             have n22_ : Aside0 (gb284 ≠ gb261):=⟨h22_⟩
             have n23_ : Aside0 (Below w.heap.size w w120):=⟨h23_⟩
             clear HO_250001
             clear HO_255001
             clear HO_262001
             clear BK235
             clear BK236
             clear BK249
             clear BK254
             clear BK261
             clear HB
             clear h0_ h1_ h2_ h3_ h4_ h5_ h6_ h7_ h8_ h9_ h10_ h11_ h12_ h13_ h14_ h15_ h16_ h17_ h18_ h19_ h20_ h21_ h22_ h23_
             have HO277:=n0_
             have HO283:=n1_
             have HO_250001:=n2_
             have HO_255001:=n3_
             have HO_262001:=n4_
             have BK235:=n5_
             have BK236:=n6_
             have BK249:=n7_
             have BK254:=n8_
             have BK261:=n9_
             have BK284:=n10_
             have GW284:=n11_
             have GE284:=n12_
             have NB235_284:=n13_
             have NB284_235:=n14_
             have NB236_284:=n15_
             have NB284_236:=n16_
             have NB249_284:=n17_
             have NB284_249:=n18_
             have NB254_284:=n19_
             have NB284_254:=n20_
             have NB261_284:=n21_
             have NB284_261:=n22_
             have HB:=n23_
             clear n0_ n1_ n2_ n3_ n4_ n5_ n6_ n7_ n8_ n9_ n10_ n11_ n12_ n13_ n14_ n15_ n16_ n17_ n18_ n19_ n20_ n21_ n22_ n23_
             have hHeld : w120.cell? ⟨gb235,0,none⟩ = some (.int .i64 a0_0) ∧ w120.cell? ⟨gb235,1,none⟩ = some (.slice A0_1 l0_1.length c0_1) ∧ w120.cell? ⟨gb236,0,none⟩ = some (.string a1_0) ∧ w120.cell? ⟨gb236,1,none⟩ = some (.string a1_1):=hS_
             obtain ⟨Ao122,co122,eo122⟩:=Kd.R_slice HO283.out
             (first|subst eo122|(injection eo122 with f1_ f2_ f3_;have f4_:=f1_.symm;have f5_:=f3_.symm;clear f1_ f2_ f3_;subst f4_;subst f5_))
             refine norm_ (a':=?_) ?_ ?_
             rotate_left
             ·
              simp only [putAll,Act.put,lA_,lB_,lC_]
              rfl
             refine one_ (i:=6) (N:=none) #[Y,Y,Y,Y,Y,Y,Y] rfl rfl (by kernel_rfl) (by decide) (fun K hK => ?_)
             have hs121 : w120.cell? ⟨gb284,0,none⟩ = some (.int .i64 0):=(zm6_ BK284.out 0).trans rfl
             have hfs121:=zm7_ BK284.out 0
             have hns121_0:=NB235_284.out
             have hns121_1:=NB236_284.out
             have hns121_2:=NB249_284.out
             have hns121_3:=NB254_284.out
             have hns121_4:=NB261_284.out
             have hms121_0:=NB284_235.out
             have hms121_1:=NB284_236.out
             have hms121_2:=NB284_249.out
             have hms121_3:=NB284_254.out
             have hms121_4:=NB284_261.out
             have hs123 : w120.cell? ⟨gb284,1,none⟩ = some (.slice none 0 0):=(zm6_ BK284.out 1).trans rfl
             have hfs123:=zm7_ BK284.out 1
             have hns123_0:=NB235_284.out
             have hns123_1:=NB236_284.out
             have hns123_2:=NB249_284.out
             have hns123_3:=NB254_284.out
             have hns123_4:=NB261_284.out
             have hms123_0:=NB284_235.out
             have hms123_1:=NB284_236.out
             have hms123_2:=NB284_249.out
             have hms123_3:=NB284_254.out
             have hms123_4:=NB284_261.out
             refine skip_ (w1:=?_) (by rfl) rfl ?_ ?_
             rotate_left
             ·
              go_simp
              rfl
             refine hK.out _ _ ⟨((cell_far (p:=⟨gb284,_,none⟩) NB235_284.out _).trans (((cell_far (p:=⟨gb284,_,none⟩) NB235_284.out _).trans (hHeld.1)))),((cell_far (p:=⟨gb284,_,none⟩) NB235_284.out _).trans (((cell_far (p:=⟨gb284,_,none⟩) NB235_284.out _).trans (hHeld.2.1)))),((cell_far (p:=⟨gb284,_,none⟩) NB236_284.out _).trans (((cell_far (p:=⟨gb284,_,none⟩) NB236_284.out _).trans (hHeld.2.2.1)))),((cell_far (p:=⟨gb284,_,none⟩) NB236_284.out _).trans (((cell_far (p:=⟨gb284,_,none⟩) NB236_284.out _).trans (hHeld.2.2.2))))⟩ (fun hHeld => ?_)
             clear hK K
             refine done_ (by kernel_rfl) ?_
             have hnb124:=NB284_235.out
             have hnc124:=NB235_284.out
             have hnb125:=NB284_236.out
             have hnc125:=NB236_284.out
             have hnb126:=NB284_249.out
             have hnc126:=NB249_284.out
             have hnb127:=NB284_254.out
             have hnc127:=NB254_284.out
             have hnb128:=NB284_261.out
             have hnc128:=NB261_284.out
             have hcz129_0 : w120.cell? ⟨gb284,0,none⟩ = some (.int .i64 0):=(zm6_ BK284.out 0).trans rfl
             have hcz129_1 : w120.cell? ⟨gb284,1,none⟩ = some (.slice none 0 0):=(zm6_ BK284.out 1).trans rfl
             have hfz129_0:=zm7_ BK284.out 0
             have hfz129_1:=zm7_ BK284.out 1
             have hnb130:=NB249_235.out
             have hnc130:=NB235_249.out
             have hnb131:=NB249_236.out
             have hnc131:=NB236_249.out
             have hnb132:=NB249_254.out
             have hnc132:=NB254_249.out
             have hcz133_0 : w120.cell? ⟨gb249,0,none⟩ = some (.int .i64 t245):=(zm6_ BK249.out 0).trans rfl
             have hcz133_1 : w120.cell? ⟨gb249,1,none⟩ = some (.slice Ao47 t246.length co47):=(zm6_ BK249.out 1).trans rfl
             have hfz133_0:=zm7_ BK249.out 0
             have hfz133_1:=zm7_ BK249.out 1
             try go_wp2_with (first|((with_reducible refine gate_callee (f:=30) rfl ?_);refine goesL_ (some 72) rfl rfl Try.func30 (by kernel_rfl) rfl #[.agg #[.int .i64 t280,.slice Ao122 t281.length co122],.agg #[.int .i64 t245,.slice Ao47 t246.length co47]] rfl (by (try simp only [zp1_,zp2_,zp3_]);first|done|rfl|(simp only [zp4_,zp5_];rfl)) ?_;(with_reducible refine (laws_eqTable.calls kj30 t280 _ _ t281 t245 _ _ t246 true _ ?side1 ?side2 ?side3 ?side4 A101.out).mono ?_);(case side1 => refine (Kd.R_reads' (e:=33) (base:=w.heap.size) (ok:=fun k_ => (some k_ ≠ (v276 : Value).ownBlock ∧ (some k_ ≠ (.slice Ao57 t269.length co57 : Value).ownBlock ∧ some k_ ≠ (.slice Ao65 t258.length co65 : Value).ownBlock))) (n:=t281.length) (c:=co122) ?_).2.2;exact (by (with_reducible repeat (first|apply k1_|apply k2_|apply k3_));exact (zo2_ (k4_ (p:=⟨gb284,1,none⟩) (k4_ (p:=⟨gb284,0,none⟩) (Kd.R_types HO283.out BK284.out (by decide)) (fun _ hk => hk.2) (.int .i64 t280)) (fun _ hk => hk.2) (.slice Ao122 t281.length co122)) (fun _ h_ => h_.1))));(case side2 => exact (Kd.R_reads' HO283.out).2.1);(case side3 => refine (Kd.V_reads' (e:=33) (base:=w.heap.size) (ok:=fun k_ => (some k_ ≠ (v276 : Value).ownBlock ∧ (some k_ ≠ (.slice Ao122 t281.length co122 : Value).ownBlock ∧ (some k_ ≠ (.slice Ao57 t269.length co57 : Value).ownBlock ∧ (some k_ ≠ (.slice Ao65 t258.length co65 : Value).ownBlock ∧ (k_ ≠ gb235 ∧ (k_ ≠ gb236 ∧ (k_ ≠ gb249 ∧ (k_ ≠ gb254 ∧ (k_ ≠ gb261 ∧ k_ ≠ gb284)))))))))) (n:=t246.length) (c:=co47) ?_).2.2;exact (by (with_reducible repeat (first|apply zn5_|apply zn6_|apply zn7_));exact (Kd.V_mono (Kd.V_far (p:=⟨gb284,1,none⟩) (Kd.V_far (p:=⟨gb284,0,none⟩) (Kd.V_mono HO_250001.out (fun k_ hk => (⟨hk,(by first|exact hk.2.2.2.2.2.2.2.2.2|(have hq_:=hk;simp only [ne_eq] at hq_ ⊢;simp only [hq_,k8_,and_self]))⟩ : _ ∧ k_ ≠ gb284))) (fun _ hk => hk.2) (.int .i64 t280)) (fun _ hk => hk.2) (.slice Ao122 t281.length co122)) (fun _ h_ => h_.1))));(case side4 => exact (Kd.V_reads' HO_250001.out).2.1);rintro e w134 ⟨rfl,hb⟩;refine ⟨_,rfl,?_⟩;have n0_:=zm0_ (zm9_ (by (with_reducible repeat (first|apply zn5_|apply zn6_|apply zn7_));exact (Kd.V_mono (Kd.V_far (p:=⟨gb284,1,none⟩) (Kd.V_far (p:=⟨gb284,0,none⟩) (Kd.V_mono HO_250001.out (fun k_ hk => (⟨hk,(by first|exact hk.2.2.2.2.2.2.2.2.2|(have hq_:=hk;simp only [ne_eq] at hq_ ⊢;simp only [hq_,k8_,and_self]))⟩ : _ ∧ k_ ≠ gb284))) (fun _ hk => hk.2) (.int .i64 t280)) (fun _ hk => hk.2) (.slice Ao122 t281.length co122)) (fun _ h_ => h_.1))) hb);have n1_:=zm0_ (zm8_ (by (with_reducible repeat (first|apply k1_|apply k2_|apply k3_));exact (zo2_ (k4_ (p:=⟨gb284,1,none⟩) (k4_ (p:=⟨gb284,0,none⟩) (Kd.R_types HO_255001.out BK284.out (by decide)) (fun _ hk => hk.2) (.int .i64 t280)) (fun _ hk => hk.2) (.slice Ao122 t281.length co122)) (fun _ h_ => h_.1))) hb);have n2_:=zm0_ (zm8_ (by (with_reducible repeat (first|apply k1_|apply k2_|apply k3_));exact (zo2_ (k4_ (p:=⟨gb284,1,none⟩) (k4_ (p:=⟨gb284,0,none⟩) (Kd.R_types HO_262001.out BK284.out (by decide)) (fun _ hk => hk.2) (.int .i64 t280)) (fun _ hk => hk.2) (.slice Ao122 t281.length co122)) (fun _ h_ => h_.1))) hb);have n3_:=zm0_ (zm8_ (by (with_reducible repeat (first|apply k1_|apply k2_|apply k3_));exact (zo2_ (k4_ (p:=⟨gb284,1,none⟩) (k4_ (p:=⟨gb284,0,none⟩) (Kd.R_types HO277.out BK284.out (by decide)) (fun _ hk => hk.2) (.int .i64 t280)) (fun _ hk => hk.2) (.slice Ao122 t281.length co122)) (fun _ h_ => h_.1))) hb);have n4_:=zm0_ (zm8_ (by (with_reducible repeat (first|apply k1_|apply k2_|apply k3_));exact (zo2_ (k4_ (p:=⟨gb284,1,none⟩) (k4_ (p:=⟨gb284,0,none⟩) (Kd.R_types HO283.out BK284.out (by decide)) (fun _ hk => hk.2) (.int .i64 t280)) (fun _ hk => hk.2) (.slice Ao122 t281.length co122)) (fun _ h_ => h_.1))) hb);have n5_:=zm0_ (zm5_ (g:=gb235) (o:=.cells #[.int .i64 a0_0,.slice A0_1 l0_1.length c0_1] 47 (0,0)) (by (with_reducible repeat (first|refine k6_ ?_ _|refine k7_ ?_|refine k5_ ?_ _));refine blk_far ?_ NB235_284.out _;(with_reducible repeat (first|refine k6_ ?_ _|refine k7_ ?_|refine k5_ ?_ _));refine blk_far ?_ NB235_284.out _;(with_reducible repeat (first|refine k6_ ?_ _|refine k7_ ?_|refine k5_ ?_ _));exact BK235.out) hb);have n6_:=zm0_ (zm5_ (g:=gb236) (o:=.cells #[.string a1_0,.string a1_1] 69 (0,0)) (by (with_reducible repeat (first|refine k6_ ?_ _|refine k7_ ?_|refine k5_ ?_ _));refine blk_far ?_ NB236_284.out _;(with_reducible repeat (first|refine k6_ ?_ _|refine k7_ ?_|refine k5_ ?_ _));refine blk_far ?_ NB236_284.out _;(with_reducible repeat (first|refine k6_ ?_ _|refine k7_ ?_|refine k5_ ?_ _));exact BK236.out) hb);have n7_:=zm0_ (zm5_ (g:=gb249) (o:=.cells #[.int .i64 t245,.slice Ao47 t246.length co47] 26 (0,0)) (by (with_reducible repeat (first|refine k6_ ?_ _|refine k7_ ?_|refine k5_ ?_ _));refine blk_far ?_ NB249_284.out _;(with_reducible repeat (first|refine k6_ ?_ _|refine k7_ ?_|refine k5_ ?_ _));refine blk_far ?_ NB249_284.out _;(with_reducible repeat (first|refine k6_ ?_ _|refine k7_ ?_|refine k5_ ?_ _));exact BK249.out) hb);have n8_:=zm0_ (zm5_ (g:=gb254) (o:=.cells #[.int .i64 t250,.slice Ao57 t269.length co57] 26 (0,0)) (by (with_reducible repeat (first|refine k6_ ?_ _|refine k7_ ?_|refine k5_ ?_ _));refine blk_far ?_ NB254_284.out _;(with_reducible repeat (first|refine k6_ ?_ _|refine k7_ ?_|refine k5_ ?_ _));refine blk_far ?_ NB254_284.out _;(with_reducible repeat (first|refine k6_ ?_ _|refine k7_ ?_|refine k5_ ?_ _));exact BK254.out) hb);have n9_:=zm0_ (zm5_ (g:=gb261) (o:=.cells #[.int .i64 t257,.slice Ao65 t258.length co65] 26 (0,0)) (by (with_reducible repeat (first|refine k6_ ?_ _|refine k7_ ?_|refine k5_ ?_ _));refine blk_far ?_ NB261_284.out _;(with_reducible repeat (first|refine k6_ ?_ _|refine k7_ ?_|refine k5_ ?_ _));refine blk_far ?_ NB261_284.out _;(with_reducible repeat (first|refine k6_ ?_ _|refine k7_ ?_|refine k5_ ?_ _));exact BK261.out) hb);have n10_:=zm0_ (zm5_ (g:=gb284) (o:=.cells #[.int .i64 t280,.slice Ao122 t281.length co122] 26 (0,0)) (by (with_reducible repeat (first|refine k6_ ?_ _|refine k7_ ?_|refine k5_ ?_ _));refine blk_put (cs:=#[.int .i64 t280,.slice none 0 0]) ?_ 1 _ rfl;(with_reducible repeat (first|refine k6_ ?_ _|refine k7_ ?_|refine k5_ ?_ _));refine blk_put (cs:=#[.int .i64 0,.slice none 0 0]) ?_ 0 _ rfl;(with_reducible repeat (first|refine k6_ ?_ _|refine k7_ ?_|refine k5_ ?_ _));exact BK284.out) hb);have n11_:=zm0_ (zn8_ (by repeat (first|(with_reducible first|exact HB.out|apply zm3_|apply zm2_|apply zm4_|refine zm1_ ?_ GE235.out|refine zm1_ ?_ GE236.out|refine zm1_ ?_ GE249.out|refine zm1_ ?_ GE254.out|refine zm1_ ?_ GE261.out|refine zm1_ ?_ GE284.out)|exact HB.out)) hb);clear HO_250001;clear HO_255001;clear HO_262001;clear HO277;clear HO283;clear BK235;clear BK236;clear BK249;clear BK254;clear BK261;clear BK284;clear HB;have HO_250001:=n0_;have HO_255001:=n1_;have HO_262001:=n2_;have HO277:=n3_;have HO283:=n4_;have BK235:=n5_;have BK236:=n6_;have BK249:=n7_;have BK254:=n8_;have BK261:=n9_;have BK284:=n10_;have HB:=n11_;clear n0_ n1_ n2_ n3_ n4_ n5_ n6_ n7_ n8_ n9_ n10_ n11_;(try clear hb);(try clear hb2);(try clear hk);(try clear hi);have hcz135_0 : w134.cell? ⟨gb261,0,none⟩ = some (.int .i64 t257):=(zm6_ BK261.out 0).trans rfl;have hcz135_1 : w134.cell? ⟨gb261,1,none⟩ = some (.slice Ao65 t258.length co65):=(zm6_ BK261.out 1).trans rfl;have hfz135_0:=zm7_ BK261.out 0;have hfz135_1:=zm7_ BK261.out 1)|((with_reducible refine gate_callee (f:=32) rfl ?_);refine goesL_ (some 76) rfl rfl Try.func32 (by kernel_rfl) rfl #[.agg #[.int .i64 t257,.slice Ao65 t272.length co65],.int .i64 1] rfl (by (try simp only [zp1_,zp2_,zp3_]);first|done|(rw [show t272.length = t258.length from (Kd.R_reads' HO_262001.out).1.symm] <;> rfl)|rfl|(simp only [zp4_,zp5_];rfl)) ?_;(with_reducible refine (laws_heldTable.calls kj30 t257 _ _ t272 1 t286 _ ?side1 ?side2 A103.out).mono ?_);(case side1 => repeat (first|exact (Kd.R_reads' HO_262001.out).2.2|(with_reducible refine Kd.C_alloc ?_ _)|(with_reducible refine Kd.C_drewN ?_ _)|(with_reducible refine Kd.C_drew ?_)));(case side2 => rw [show t272.length = t258.length from (Kd.R_reads' HO_262001.out).1.symm];exact (Kd.R_reads' HO_262001.out).2.1);rintro e w136 ⟨rfl,hb⟩;refine ⟨_,rfl,?_⟩;have n0_:=zm0_ (zm9_ (by (with_reducible repeat (first|apply zn5_|apply zn6_|apply zn7_));exact HO_250001.out) hb);have n1_:=zm0_ (zm8_ (by (with_reducible repeat (first|apply k1_|apply k2_|apply k3_));exact HO_255001.out) hb);have n2_:=zm0_ (zm8_ (by (with_reducible repeat (first|apply k1_|apply k2_|apply k3_));exact HO_262001.out) hb);have n3_:=zm0_ (zm8_ (by (with_reducible repeat (first|apply k1_|apply k2_|apply k3_));exact HO277.out) hb);have n4_:=zm0_ (zm8_ (by (with_reducible repeat (first|apply k1_|apply k2_|apply k3_));exact HO283.out) hb);have n5_:=zm0_ (zm5_ (by (with_reducible repeat (first|refine k6_ ?_ _|refine k7_ ?_|refine k5_ ?_ _));exact BK235.out) hb);have n6_:=zm0_ (zm5_ (by (with_reducible repeat (first|refine k6_ ?_ _|refine k7_ ?_|refine k5_ ?_ _));exact BK236.out) hb);have n7_:=zm0_ (zm5_ (by (with_reducible repeat (first|refine k6_ ?_ _|refine k7_ ?_|refine k5_ ?_ _));exact BK249.out) hb);have n8_:=zm0_ (zm5_ (by (with_reducible repeat (first|refine k6_ ?_ _|refine k7_ ?_|refine k5_ ?_ _));exact BK254.out) hb);have n9_:=zm0_ (zm5_ (by (with_reducible repeat (first|refine k6_ ?_ _|refine k7_ ?_|refine k5_ ?_ _));exact BK261.out) hb);have n10_:=zm0_ (zm5_ (by (with_reducible repeat (first|refine k6_ ?_ _|refine k7_ ?_|refine k5_ ?_ _));exact BK284.out) hb);have n11_:=zm0_ (zn8_ (by repeat (first|(with_reducible first|exact HB.out|apply zm3_|apply zm2_|apply zm4_|refine zm1_ ?_ GE235.out|refine zm1_ ?_ GE236.out|refine zm1_ ?_ GE249.out|refine zm1_ ?_ GE254.out|refine zm1_ ?_ GE261.out|refine zm1_ ?_ GE284.out)|exact HB.out)) hb);clear HO_250001;clear HO_255001;clear HO_262001;clear HO277;clear HO283;clear BK235;clear BK236;clear BK249;clear BK254;clear BK261;clear BK284;clear HB;have HO_250001:=n0_;have HO_255001:=n1_;have HO_262001:=n2_;have HO277:=n3_;have HO283:=n4_;have BK235:=n5_;have BK236:=n6_;have BK249:=n7_;have BK254:=n8_;have BK261:=n9_;have BK284:=n10_;have HB:=n11_;clear n0_ n1_ n2_ n3_ n4_ n5_ n6_ n7_ n8_ n9_ n10_ n11_;(try clear hb);(try clear hb2);(try clear hk);(try clear hi)))
             go_ret
             exact ⟨by first|rfl|(simp [errW_none,errW_some] <;> rfl)|(simp [*,errW_none,errW_some] <;> rfl),by repeat (first|(with_reducible first|exact HB.out|apply zm3_|apply zm2_|apply zm4_|refine zm1_ ?_ GE235.out|refine zm1_ ?_ GE236.out|refine zm1_ ?_ GE249.out|refine zm1_ ?_ GE254.out|refine zm1_ ?_ GE261.out|refine zm1_ ?_ GE284.out)|exact HB.out)⟩
            ·
             rw [if_neg c105] at H
             exact absurd H (by simp)
          ·
           replace c102:=Bool.eq_false_iff.mpr c102
           subst c102
           have H1 : (none) = some r:=by rw [if_neg (show ¬ (false = true) by decide)] at H;exact H
           clear H
           have H:=H1
           clear H1
           exact absurd H (by simp)
         ·
          rw [if_neg c97] at H
          exact absurd H (by simp)
    ·
     replace c29:=Bool.eq_false_iff.mpr c29
     subst c29
     have H1 : (none) = some r:=by rw [if_neg (show ¬ (false = true) by decide)] at H;exact H
     clear H
     have H:=H1
     clear H1
     exact absurd H (by simp)
   ·
    replace c26:=Bool.eq_false_iff.mpr c26
    subst c26
    have H1 : (none) = some r:=by rw [if_neg (show ¬ (false = true) by decide)] at H;exact H
    clear H
    have H:=H1
    clear H1
    exact absurd H (by simp)

/-- THE ONE PURE STATEMENT of laws_FnExactAddField. -/
def laws_FnExactAddField.Pure : Prop:=∀ (a0_0 : Int) (l0_1 : List (S69)) (a1_0 : ByteArray) (a1_1 : ByteArray),(Lit.int .i64 a0_0).wf = true → l0_1.length ≤ 9223372036854775807 → (∀ x ∈ l0_1,x.f0.size ≤ 9223372036854775807 ∧ x.f1.size ≤ 9223372036854775807) → a1_0.size ≤ 9223372036854775807 → a1_1.size ≤ 9223372036854775807 → ∃ k,laws_FnExactAddField.f k a0_0 l0_1 a1_0 a1_1 = some true

end Go.Proofs.Ytlgfcpmihocheaa.A
