/- Functions of the program and of the reference as plain Lean functions, that the machine's calls answer as they do, and laws of these. Written in part by a program of this session, out of the translation. Condition: each theorem's own. -/
import Derived.Test.YthflimnpiglgbaaGreatDoorPg1
import Derived.Test.YthflimnpiglgbaaGreatDoorPg5
import Derived.Test.YthflimnpiglgbaaGreatDoorPg4
section
namespace Go.Proofs.YthflimnpiglgbaaGreatDoor.A
open Go.RowKit Go.Proofs.YthflimnpiglgbaaGreatDoorW.PrintWords Go.Proofs.YthflimnpiglgbaaGreatDoorW.PrintLast Go.Proofs.YthflimnpiglgbaaGreatDoorW.PrintMore
attribute [local go_sem] max2_int min2_int max_two min_two max_three min_three max_four min_four   -- for this text's walks alone
set_option linter.unusedVariables false
set_option linter.unusedSimpArgs false

/-- What is left of the room behind a field. -/
def impl_Table_put.nx (room : Int) (x : S36) : Int:=wrap64 (room - wrap64 ((wrap64 ((x.f0.size : Int) + (x.f1.size : Int))) + 32))
/-- As many of the first fields as there is room for. -/
def impl_Table_put.tr : Nat → Int → List S36 → Nat → Option Nat
 | 0,_,_,_ => none
 | d + 1,room,l,i => if impl_Table_put.nx room (l.getD i z36) < 0 then some i else impl_Table_put.tr d (impl_Table_put.nx room (l.getD i z36)) l (i + 1)
def impl_Table_put.cut (m : Int) (l : List S36) : List S36:=match impl_Table_put.tr l.length m l 0 with
 | none => l
 | some i => l.take i
theorem impl_Table_put.meas (n i : Nat) (h : i < n) : n - (intOf (.int .i64 ((i + 1 : Nat) : Int))).toNat < n - (intOf (.int .i64 (i : Int))).toNat:=by
 show n - (i + 1) < n - i
 omega
/-- What trim leaves: all as it was,or the row cut. -/
def impl_Table_put.Post (g : Nat) (l : List S36) (w w' : World) (res : Option Nat) : Prop :=
 (res = none ∧ Below w.heap.size w w') ∨ ∃ (i : Nat) (w1 : World) (v : Value),res = some i ∧ Below w.heap.size w w1 ∧ Kd.R k36 36 w1 w.heap.size (fun _ => True) v (l.take i) ∧ w' = w1.setCell ⟨g,1,none⟩ v
set_option maxHeartbeats 8000000 in
set_option maxRecDepth 100000 in
theorem impl_Table_put.trim (g : Nat) (m : Int) (A : Option Addr) (c : Nat) (l : List S36) (w : World) (hb : w.heap[g]? = some (.cells #[.int .i64 m,.slice A l.length c] 32 (0,0))) (hr : Kd.C k36 w A l.length l) (hc : l.length ≤ c) (hl : l.length < 4398046511104) :
 Calls Tryz.prog 59 #[.pointer (some ⟨g,0,none⟩)] w fun e w' => e = .returned (.tuple #[]) ∧
  impl_Table_put.Post g l w w' (impl_Table_put.tr l.length m l 0):=by
 have hu32:=Tryz.underlying32
 have hu36:=Tryz.underlying36
 have HR:=zm0_ hr
 have HC:=zm0_ hc
 have HL:=zm0_ hl
 have BK:=zm0_ hb
 obtain ⟨res,hres⟩ : ∃ res,res = impl_Table_put.tr l.length m l 0:=⟨_,rfl⟩
 rw [← hres]
 have H':=zm0_ hres.symm
 have HB:=zm0_ (Below.refl w.heap.size w)
 have hgl:=zo3_ hb
 have HGL:=zm0_ hgl
 have hcz0 : w.cell? ⟨g,0,none⟩ = some (.int .i64 m):=(zm6_ hb 0).trans rfl
 have hcz1 : w.cell? ⟨g,1,none⟩ = some (.slice A l.length c):=(zm6_ hb 1).trans rfl
 clear hr hc hl hb hres hgl
 go_enter Tryz.func59,Tryz.ntmps59
 go_wp2
 clear hcz0 hcz1
 go_loopw [2,14] (fun v2 v14 wr => ∃ (room : Int) (i : Nat),v2 = .int .i64 room ∧ v14 = .int .i64 (i : Int) ∧ i ≤ l.length ∧ Aside0 (impl_Table_put.tr (l.length - i) room l i = res) ∧ Aside0 (Below w.heap.size w wr)) (fun _ v14 _ => l.length - (intOf v14).toNat)
 case atStart => exact ⟨m,0,rfl,rfl,Nat.zero_le _,H',HB⟩
 case round =>
  clear H' HB
  obtain ⟨room,i,rfl,rfl,hi,HA,HB⟩:=hrel
  by_cases hlt : i < l.length
  ·
   obtain ⟨d,hd⟩ : ∃ d,l.length - i = d + 1:=⟨l.length - i - 1,by omega⟩
   have HD:=zm0_ hd
   have H:=HA.out
   rw [hd] at H
   simp only [impl_Table_put.tr] at H
   clear HA hd hi
   obtain ⟨x,hx⟩ : ∃ x,x = l.getD i z36:=⟨_,rfl⟩
   obtain ⟨ad,e1,hx0,hx1⟩:=at_T36 (Kd.C_below HR.out HB.out) (i : Int) (by omega) (by omega)
   have hrd : rd_T36 l (i : Int) = x:=by rw [hx];rfl
   rw [hrd,Int.toNat_natCast] at hx0 hx1
   rw [← hx] at H
   have hsz : impl_sizeOf.f x.f0 x.f1 = some (wrap64 ((wrap64 ((x.f0.size : Int) + (x.f1.size : Int))) + 32)):=rfl
   have A7:=zm0_ hsz
   obtain ⟨sz,hsz2⟩ : ∃ sz,sz = wrap64 ((wrap64 ((x.f0.size : Int) + (x.f1.size : Int))) + 32):=⟨_,rfl⟩
   have hnx : impl_Table_put.nx room x = wrap64 (room - sz):=by unfold impl_Table_put.nx;rw [hsz2]
   rw [hnx] at H
   rw [← hsz2] at A7
   cases e1
   have hlt' : decide ((i : Int) < (l.length : Int)) = true:=decide_eq_true (by omega)
   have hi0 : (0 : Int) ≤ (i : Int):=by omega
   have hi1 : (i : Int) < (l.length : Int):=by omega
   have HX:=zm0_ hx
   clear hx hsz hsz2 hnx hrd
   by_cases hneg : wrap64 (room - sz) < 0
   ·
    rw [if_pos hneg] at H
    have hneg' : decide (wrap64 (room - sz) < 0) = true:=decide_eq_true hneg
    have hi2 : some i = res:=H
    obtain rfl:=hi2
    clear H
    have hll : (l.take i).length = i:=by rw [List.length_take];omega
    obtain ⟨i0,hinf,_,_,_⟩:=info_parts info36
    have hcut : ∀ W : World,(Instr.slice 30 (.slice (some ad) l.length c) none (some (.int .i64 (i : Int))) none).run Tryz.prog W = .ok (.slice (some ad) i c) W:=by
     intro W
     rw [cut_to 30 36 .i64 Tryz.underlying30 hinf (some ad) l.length c (i : Int) (by omega) (by omega) HC.out W,Int.toNat_natCast]
    have hF : impl_Field_42.f (l.take i) = some (l.take i):=by
     unfold impl_Field_42.f
     rw [Option.bind_some,if_pos (by rw [hll,List.length_nil];have:=HL.out;omega),List.nil_append]
    have hclone : ∀ W : World,Kd.C k36 W (some ad) l.length l → Calls Tryz.prog 42 #[.slice (some ad) i c] W fun e w' => ∃ v0_ : Value,e = .returned (v0_) ∧ Kd.R k36 36 w' W.heap.size (fun _ => True) v0_ (l.take i) ∧ Below W.heap.size W w':=by
     intro W hC
     have:=impl_Field_42.calls (some ad) c (l.take i) (l.take i) W (Kd.C_take hC (Nat.le_of_lt hlt)) (by rw [hll];have:=HC.out;omega) hF
     rw [hll] at this
     exact this
    have HCL:=zm0_ hclone
    clear hinf hll hF hclone
    go_wp2_with (first|((with_reducible refine gate_dst (N:=4) rfl ?_);refine box_event ?hg (N:=4) ?hd (cs:=#[.string (⟨#[]⟩ : ByteArray),.string (⟨#[]⟩ : ByteArray)]) (t:=36) ?hr ?_;(case hd => rfl);(case hg => rfl);(case hr => first|(go_simp;done)|(go_simp;rfl));intro gx hg w8 hbox hb;have BKX:=zm0_ hbox;have GEX:=zm0_ ((by rw [hg];exact zn9_ HB.out) : w.heap.size ≤ gx);have HB8:=zm0_ (zn8_ HB.out hb);clear hg hb hbox;have hcz10_0 : w8.cell? ⟨gx,0,none⟩ = some (.string (⟨#[]⟩ : ByteArray)):=(zm6_ BKX.out 0).trans rfl;have hcz10_1 : w8.cell? ⟨gx,1,none⟩ = some (.string (⟨#[]⟩ : ByteArray)):=(zm6_ BKX.out 1).trans rfl;have hfz10_0:=zm7_ BKX.out 0;have hfz10_1:=zm7_ BKX.out 1)|((with_reducible refine gate_callee (f:=52) rfl ?_);refine goesL_ (some 21) rfl rfl Tryz.func52 (by kernel_rfl) rfl #[.agg #[.string x.f0,.string x.f1]] rfl (by (try simp only [zp1_,zp2_,zp3_]);first|done|rfl) ?_;(with_reducible refine (impl_sizeOf.calls x.f0 x.f1 sz _ A7.out).mono ?_);rintro e w11 ⟨rfl,hb⟩;refine ⟨_,rfl,?_⟩;have HB11:=zm0_ (zn8_ (zl1 HB8 GEX) hb);clear hb;have hb11g:=zm0_ (zm5_ (g:=g) (o:=.cells #[.int .i64 m,.slice (some ad) l.length c] 32 (0,0)) BK.out HB11.out);have hcg1 : w11.cell? ⟨g,1,none⟩ = some (.slice (some ad) l.length c):=(zm6_ hb11g.out 1).trans rfl)|((with_reducible refine gate_callee (f:=42) rfl ?_);refine goesL_ (some 32) rfl rfl Tryz.func42 (by kernel_rfl) rfl #[.slice (some ad) (i : Nat) c] rfl (by (try simp only [zp1_,zp2_,zp3_]);first|done|rfl) ?_;refine (HCL.out _ (Kd.C_below HR.out HB11.out)).mono ?_;rintro e w12 ⟨v12,rfl,ho,hb⟩;obtain ⟨A12,c12,ev⟩:=Kd.R_slice ho;subst ev;refine ⟨_,rfl,?_⟩;have HO12:=zm0_ (zo1_ ho (zn9_ HB11.out));have HB12:=zm0_ (zn8_ HB11.out hb);have hb12g:=zm0_ (zm5_ hb11g.out hb);have hcg2 : w12.cell? ⟨g,1,none⟩ = some (.slice (some ad) l.length c):=(zm6_ hb12g.out 1).trans rfl;have hfg0:=zm7_ hb12g.out 0;have hfg1:=zm7_ hb12g.out 1;clear hb ho))
    (try simp only [Exit.inBlock,Exit.then])
    refine bodyPost_ret (results_none rfl _ _ _) rfl ?_
    exact ⟨rfl,.inr ⟨i,w12,_,rfl,HB12.out,HO12.out,by rw [List.length_take]⟩⟩
   ·
    rw [if_neg hneg] at H
    have hneg' : decide (wrap64 (room - sz) < 0) = false:=decide_eq_false hneg
    have H':=zm0_ H
    clear H
    go_wp2_with (first|((with_reducible refine gate_dst (N:=4) rfl ?_);refine box_event ?hg (N:=4) ?hd (cs:=#[.string (⟨#[]⟩ : ByteArray),.string (⟨#[]⟩ : ByteArray)]) (t:=36) ?hr ?_;(case hd => rfl);(case hg => rfl);(case hr => first|(go_simp;done)|(go_simp;rfl));intro gx hg w8 hbox hb;have BKX:=zm0_ hbox;have GEX:=zm0_ ((by rw [hg];exact zn9_ HB.out) : w.heap.size ≤ gx);have HB8:=zm0_ (zn8_ HB.out hb);clear hg hb hbox;have hcz10_0 : w8.cell? ⟨gx,0,none⟩ = some (.string (⟨#[]⟩ : ByteArray)):=(zm6_ BKX.out 0).trans rfl;have hcz10_1 : w8.cell? ⟨gx,1,none⟩ = some (.string (⟨#[]⟩ : ByteArray)):=(zm6_ BKX.out 1).trans rfl;have hfz10_0:=zm7_ BKX.out 0;have hfz10_1:=zm7_ BKX.out 1)|((with_reducible refine gate_callee (f:=52) rfl ?_);refine goesL_ (some 21) rfl rfl Tryz.func52 (by kernel_rfl) rfl #[.agg #[.string x.f0,.string x.f1]] rfl (by (try simp only [zp1_,zp2_,zp3_]);first|done|rfl) ?_;(with_reducible refine (impl_sizeOf.calls x.f0 x.f1 sz _ A7.out).mono ?_);rintro e w11 ⟨rfl,hb⟩;refine ⟨_,rfl,?_⟩;have HB11:=zm0_ (zn8_ (zl1 HB8 GEX) hb);clear hb))
    go_roundw
    case rel =>
     have hwi : wrap64 ((i : Int) + 1) = ((i + 1 : Nat) : Int):=by have:=HL.out;unfold wrap64;omega
     exact ⟨wrap64 (room - sz),i + 1,rfl,congrArg _ hwi,hlt,⟨(by rw [show l.length - (i + 1) = d by have:=HD.out;omega];exact H'.out)⟩,HB11⟩
    case measure =>
     have hwi : wrap64 ((i : Int) + 1) = ((i + 1 : Nat) : Int):=by have:=HL.out;unfold wrap64;omega
     rw [hwi]
     exact impl_Table_put.meas l.length i hlt
  ·
   obtain rfl : i = l.length:=by omega
   have H:=HA.out
   rw [Nat.sub_self] at H
   have hn : none = res:=H
   obtain rfl:=hn
   clear H HA
   go_wp2
   go_end0
   exact ⟨rfl,.inl ⟨rfl,HB.out⟩⟩
/-- A copy between rows of elements of several cells: all is read before anything is written. -/
theorem impl_Table_put.ins_copy {P : Program} (w : World) (dT sT ty elem : TypeId) (sz g o dLen dCap : Nat) (a : Addr) (sLen sCap : Nat) (cur : Array Value) (t : TypeId) (cs : List Value) (n : Nat)
 (hu : P.underlying dT = some (.slice elem)) (hs : (P.info? elem).map (·.size) = some sz)
 (hg : w.heap[g]? = some (.cells cur t (0,0))) (hn : n = Nat.min sLen dLen) (hcl : cs.length = n * sz)
 (hsrc : ∀ j v,cs[j]? = some v → w.cell? (a.add j) = some v) (hfit : o + cs.length ≤ cur.size) (h1 : ∀ v ∈ cs,v.oneCell' = true) :
 (Builtin.copy_ #[dT,sT] ty #[.slice (some ⟨g,o,none⟩) dLen dCap,.slice (some a) sLen sCap]).run P w =
  .ok (goInt n) (w.setRow g (cur.toList.take o ++ cs ++ cur.toList.drop (o + cs.length)).toArray):=by
 have hl:=run_loadCells_list (P:=P) w a cs hsrc
 have hst:=run_storeCells_at P g o t cs 0 cur w hg (by simpa using hfit) h1
 cases hq : P.info? elem with
 | none => simp [hq] at hs
 | some i =>
  have hi : i.size = sz:=by simpa [hq] using hs
  rw [hcl] at hl
  simp [Builtin.copy_,run_underlying hu,Builtin.lenOf,Builtin.firstCells,sizeOf,typeInfo,hq,hi,← hn,hl,hst]
section
variable {P : Program}
theorem impl_Table_put.ins_wpcopy (w : World) {ops : Array Oper} {rest : List Oper} {o : Oper} {a : Act} {Q : Exit → Act → World → Prop} (hgd : o.guard = none) (d s : Operand) (t t' : TypeId)
 (ho : o.op = .call { callee:=.builtin .copy,args:=#[d,s],argTypes:=#[t,t'] }) (v u : Value) (hd : a.eval d = v) (hs : a.eval s = u) {v' : Value} {w' : World}
 (hr : (Builtin.copy_ #[t,t'] o.type #[v,u]).run P w = .ok v' w') (h : wpList P ops Q rest (a.put o.dst v') w') : wpList P ops Q (o :: rest) a w :=
 wpList_plain hgd fun K hK => by
  unfold Oper.wp execOp
  simp only [ho,resolve,invoke,builtin,Sem.run_bind,Sem.run_pure,Result.andThen_ok,List.map_toArray,List.map_cons,List.map_nil,hd,hs,hr]
  exact hK _ _ h
theorem impl_Table_put.ins_stepcopy {ops : Array Oper} {o : Oper} {a : Act} {w : World} {K : Act → World → Prop} {Q : Exit → Act → World → Prop} {E : Prop}
 (hg : o.guard = none) (d x : Operand) (dT sT : TypeId) (hop : o.op = Op.call { callee:=Callee.builtin Builtin.copy,args:=#[d,x],argTypes:=#[dT,sT] })
 (v u : Value) (hd : a.eval d = v) (hx : a.eval x = u) {v' : Value} {w' : World} (hr : (Builtin.copy_ #[dT,sT] o.type #[v,u]).run P w = .ok v' w') (hK : K (a.put o.dst v') w') :
 if Region.wanted o (yielded ops a.tmps) = true then Oper.wp P o a w K Q else E:=by
 have hw : Region.wanted o (yielded ops a.tmps) = true:=by simp [Region.wanted,hg]
 rw [if_pos hw]
 unfold Oper.wp
 simp [execOp,hop,resolve,invoke,builtin,hd,hx,hr,Result.andThen]
 exact hK
end
set_option maxHeartbeats 8000000 in
set_option maxRecDepth 100000 in
theorem impl_Table_put.ins_end (v : Value) (x : S36) (w0 W : World) (base vb : Nat) (ok : Nat → Prop) (hvb : W.heap[vb]? = some (.cells #[.string x.f0,.string x.f1] 36 (0,0))) (hok : ∀ k,W.heap.size ≤ k → ok k) (HO : Kd.R k36 36 W base ok v []) (HB : Below base w0 W) (hbase : base ≤ W.heap.size) :
 Calls Tryz.prog 58 #[v,.int .i64 0,.slice (some ⟨vb,0,none⟩) 1 1] W fun e w' => ∃ v' : Value,e = .returned v' ∧ Kd.R k36 36 w' base ok v' [x] ∧ Below base w0 w' ∧ W.grownBy w' v.ownBlock:=by
 obtain ⟨A,c,hv⟩:=Kd.R_slice HO
 have hv0 : v = .slice A 0 c:=hv
 subst hv0
 clear hv
 obtain ⟨i0,hinf,_,_,_⟩:=info_parts info36
 have hsrc : ReadsRow (fun (y : S36) cs => cs = [.string y.f0,.string y.f1]) 2 W (some ⟨vb,0,none⟩) 1 [x]:=by
  refine ⟨rfl,by omega,fun _ => ⟨_,rfl,fun j p hj => ?_⟩⟩
  obtain ⟨rfl,rfl⟩ : j = 0 ∧ p = x:=by
   cases j with
   | zero => exact ⟨rfl,(Option.some.inj hj).symm⟩
   | succ j => simp at hj
  refine ⟨_,rfl,rfl,fun i u hu => ?_⟩
  have : W.cell? ⟨vb,i,none⟩ = some u:=by
   rw [zm6_ hvb i]
   simpa using hu
  rw [Addr.add_lit,Nat.zero_mul,Nat.zero_add,Nat.zero_add]
  exact this
 have HO':=zm0_ HO
 have HB':=zm0_ HB
 have HV':=zm0_ hsrc
 have HK':=zm0_ hok
 have HZ:=zm0_ hbase
 clear HO HB hvb hok hbase hsrc
 go_enter Tryz.func58,Tryz.ntmps58
 go_wp2_with (at_builtin;refine Kd.R_append_rows k36 (w0:=w0) base rfl (.tmp 23) (.tmp 24) 30 36 (.agg #[(.string ⟨#[]⟩),(.string ⟨#[]⟩)]) 32 rfl Tryz.underlying30 info36 rfl (by decide) (by omega) (.slice A 0 c) [] [x] (some ⟨vb,0,none⟩) 1 1 ok (fun _ => False) rfl rfl HO'.out HV'.out (fun y cs h => by rw [h];exact k36_mkM _ _ _ y) (fun _ h => h.elim) HK'.out HB'.out HZ.out (by simp) ?_;intro v1 w1 h1 h2 h3 h4;have H1:=zm0_ h1;have H2:=zm0_ h2;have H3:=zm0_ h3;clear h1 h2 h3 h4)
 go_ret
 exact ⟨_,rfl,H1.out,H2.out,H3.out⟩
theorem impl_Table_put.ins_reps {w : World} {base : Nat} {ok : Nat → Prop} {l : List S36} {inner : List Value} (x : S36) (h : Reps (k36.M w base ok) 2 l inner) (w' : World) (base' : Nat) (ok' : Nat → Prop) : Reps (k36.M w' base' ok') 2 (x :: l) (.string x.f0 :: .string x.f1 :: inner) :=
 Reps.c2 (k36_mkM _ _ _ x) (h.imp_ (fun y cs hy => by rw [k36_openM hy];exact k36_mkM _ _ _ y))
theorem impl_Table_put.ins_one {w : World} {base : Nat} {ok : Nat → Prop} {l : List S36} {inner : List Value} (h : Reps (k36.M w base ok) 2 l inner) : ∀ v ∈ inner,v.oneCell' = true :=
 Kd.reps_one h (by decide) (fun p c hp u hu => by rw [k36_openM hp] at hu;simp only [List.mem_cons,List.not_mem_nil,or_false] at hu;rcases hu with rfl|rfl <;> rfl)
set_option maxHeartbeats 8000000 in
set_option maxRecDepth 100000 in
theorem impl_Table_put.ins_grow (x : S36) (l : List S36) (n c g vb : Nat) (cur : Array Value) (inner : List Value) (W : World) (hvb : W.heap[vb]? = some (.cells #[.string x.f0,.string x.f1] 36 (0,0))) (hg : W.heap[g]? = some (.cells cur 36 (0,0)))
 (hn : l.length = n) (hn0 : 0 < n) (hnc : n ≤ c) (hc : c < n + 1) (hcur : cur.toList.take (n * 2) = inner) (hil : inner.length = n * 2) (h1 : ∀ v ∈ inner,v.oneCell' = true) (hbig : (n + 1) * 32 ≤ 140737488355328) :
 Calls Tryz.prog 58 #[.slice (some ⟨g,0,none⟩) n c,.int .i64 0,.slice (some ⟨vb,0,none⟩) 1 1] W fun e w' => ∃ (G : Nat) (Z : Array Value),e = .returned (.slice (some ⟨W.heap.size,0,none⟩) (n + 1) G) ∧ n + 1 ≤ G ∧ G ≤ maxLen ∧ Z.size = G * 2 ∧ Z.toList.take ((n + 1) * 2) = .string x.f0 :: .string x.f1 :: inner ∧ Below W.heap.size W w' ∧ w'.heap[W.heap.size]? = some (.cells Z 36 (0,0)):=by
 have hu30:=Tryz.underlying30
 obtain ⟨i0,hinf,hz0,hzs,hzb⟩:=info_parts info36
 have hsz : (Tryz.prog.info? 36).map (·.size) = some 2:=by rw [hinf];simp [hzs]
 have hrz:=fun ty => Lib.run_append_grow_zeros (P:=Tryz.prog) W 30 3 ty 36 i0 _ .i64 .i64 Tryz.underlying30 Tryz.underlying3 hinf hz0 (some ⟨g,0,none⟩) 0 c [] (by rw [hzs];exact run_firstCells_some W.drew 2 0 ⟨g,0,none⟩ 0 c [] rfl (fun j v hj => by simp at hj)) (n + 1) (by omega) (by omega) (by omega) (by omega) (by rw [hzb];omega) (by rw [hzb];exact growslice_fits (by omega) (by omega))
 generalize hcap : grownCap W (0 + (n + 1)) c 36 = G at hrz
 have g1 : n + 1 ≤ G:=by rw [← hcap];have:=grownCap_ge W (0 + (n + 1)) c 36;omega
 have g2 : G ≤ maxLen:=by rw [← hcap];exact grownCap_le_maxLen W _ c 36 (by unfold maxLen;omega)
 generalize hZ : ([] : List Value).toArray ++ Builtin.zeroCells (Value.cells (.agg #[(.string ⟨#[]⟩),(.string ⟨#[]⟩)])) (n + 1) ++ Builtin.zeroCells (Value.cells (.agg #[(.string ⟨#[]⟩),(.string ⟨#[]⟩)])) (G - (0 + (n + 1))) = Z at hrz
 have hZs : Z.size = G * 2:=by rw [← hZ];simp [size_zeroCells,Value.cells];omega
 rw [Nat.zero_add] at hrz
 clear hZ hcap
 have hvlt : vb < W.heap.size:=zo3_ hvb
 have hglt : g < W.heap.size:=zo3_ hg
 obtain ⟨W1,hW1⟩ : ∃ W1,W1 = (W.alloc (.cells Z 36)).drew:=⟨_,rfl⟩
 have hN : W1.heap[W.heap.size]? = some (.cells Z 36 (0,0)):=by rw [hW1];exact heap_alloc_new W _
 have hB1 : Below W.heap.size W W1:=by rw [hW1];exact ((Below.refl W.heap.size W).alloc (Nat.le_refl _) _).drew
 have hvb1 : W1.heap[vb]? = some (.cells #[.string x.f0,.string x.f1] 36 (0,0)):=by rw [hB1.block vb hvlt];exact hvb
 have hg1 : W1.heap[g]? = some (.cells cur 36 (0,0)):=by rw [hB1.block g hglt];exact hg
 obtain ⟨Z1,hZ1⟩ : ∃ Z1,Z1 = (Z.toList.take 0 ++ [Value.string x.f0,Value.string x.f1] ++ Z.toList.drop (0 + [Value.string x.f0,Value.string x.f1].length)).toArray:=⟨_,rfl⟩
 obtain ⟨W2,hW2⟩ : ∃ W2,W2 = W1.setRow W.heap.size Z1:=⟨_,rfl⟩
 have hcpA : ∀ ty dc,(Builtin.copy_ #[30,30] ty #[.slice (some ⟨W.heap.size,0,none⟩) (n + 1) dc,.slice (some ⟨vb,0,none⟩) 1 1]).run Tryz.prog W1 = .ok (goInt 1) W2:=fun ty dc => by
  rw [hW2,hZ1]
  exact impl_Table_put.ins_copy W1 30 30 ty 36 2 W.heap.size 0 (n + 1) dc ⟨vb,0,none⟩ 1 1 Z 36 [.string x.f0,.string x.f1] 1 Tryz.underlying30 hsz hN (by simp only [Nat.min_def];split <;> omega) rfl
   (fun j v hj => by rw [Addr.add_lit,Nat.zero_add,zm6_ hvb1 j];simpa using hj) (by simp only [List.length_cons,List.length_nil];omega) (by simp only [List.mem_cons,List.not_mem_nil,or_false];rintro v (rfl|rfl) <;> rfl)
 have hN2 : W2.heap[W.heap.size]? = some (.cells Z1 36 (0,0)):=by rw [hW2];exact setRow_heap W1 _ _ _ _ _ hN
 have hg2 : W2.heap[g]? = some (.cells cur 36 (0,0)):=by rw [hW2,setRow_other _ _ _ _ (Nat.ne_of_lt hglt)];exact hg1
 have hB2 : Below W.heap.size W W2:=by
  rw [hW2]
  exact hB1.trans ⟨rfl,rfl,rfl,by simp [World.setRow],fun k hk => setRow_other W1 _ k _ (by omega)⟩
 have hZ1l : Z1.toList = Value.string x.f0 :: Value.string x.f1 :: Z.toList.drop 2:=by rw [hZ1];simp
 have hZ1s : Z1.size = G * 2:=by
  rw [← Array.length_toList,hZ1l]
  simp only [List.length_cons,List.length_drop,Array.length_toList]
  omega
 obtain ⟨Z2,hZ2⟩ : ∃ Z2,Z2 = (Z1.toList.take 2 ++ inner ++ Z1.toList.drop (2 + inner.length)).toArray:=⟨_,rfl⟩
 obtain ⟨W3,hW3⟩ : ∃ W3,W3 = W2.drew.setRow W.heap.size Z2:=⟨_,rfl⟩
 have hcpB : ∀ ty dc sc,(Builtin.copy_ #[30,30] ty #[.slice (some ⟨W.heap.size,2,none⟩) n dc,.slice (some ⟨g,0,none⟩) n sc]).run Tryz.prog W2.drew = .ok (goInt n) W3:=fun ty dc sc => by
  rw [hW3,hZ2]
  exact impl_Table_put.ins_copy W2.drew 30 30 ty 36 2 W.heap.size 2 n dc ⟨g,0,none⟩ n sc Z1 36 inner n Tryz.underlying30 hsz hN2 (by simp only [Nat.min_def];split <;> omega) hil
   (fun j v hj => by
    rw [Addr.add_lit,Nat.zero_add,zm6_ (w:=W2.drew) hg2 j]
    rw [← hcur,List.getElem?_take] at hj
    split at hj
    ·
     simpa using hj
    ·
     cases hj) (by omega) h1
 have hN3 : W3.heap[W.heap.size]? = some (.cells Z2 36 (0,0)):=by rw [hW3];exact setRow_heap W2.drew _ _ _ _ _ hN2
 have hB3 : Below W.heap.size W W3:=by
  rw [hW3]
  exact hB2.drew.trans ⟨rfl,rfl,rfl,by simp [World.setRow],fun k hk => setRow_other W2.drew _ k _ (by omega)⟩
 have hZ2l : Z2.toList = Value.string x.f0 :: Value.string x.f1 :: (inner ++ Z1.toList.drop (2 + inner.length)):=by rw [hZ2,hZ1l];simp
 have hZ2t : Z2.toList.take ((n + 1) * 2) = Value.string x.f0 :: Value.string x.f1 :: inner:=by
  rw [hZ2l,show (n + 1) * 2 = n * 2 + 1 + 1 by omega,List.take_succ_cons,List.take_succ_cons,← hil,List.take_left]
 have hZ2s : Z2.size = G * 2:=by
  rw [← Array.length_toList,hZ2l]
  simp only [List.length_cons,List.length_append,List.length_drop,Array.length_toList]
  omega
 subst hW1
 have hw1 : IntKind.i64.wrap 1 = 1:=by decide
 have hb1 : (1 : Int) ≤ (n : Int) + 1:=by omega
 have hG1 : ¬ (G = 1):=by omega
 have hG0 : ¬ (G = 0):=by omega
 have hci : ¬ (c = 0):=by omega
 have CA:=zm0_ hcpA
 have CB:=zm0_ hcpB
 have F1:=zm0_ hN3
 have F2:=zm0_ hB3
 have F3:=zm0_ hZ2t
 have F4:=zm0_ hZ2s
 have FR:=zm0_ hrz
 clear hN3 hB3 hZ2t hZ2s hcpA hcpB hN hB1 hvb1 hg1 hZ1 hW2 hN2 hg2 hB2 hZ1l hZ1s hZ2 hW3 hZ2l hrz h1 hil hcur hg hvb hn
 go_enter Tryz.func58,Tryz.ntmps58
 go_wp2_with (first
  | (at_builtin;refine Lib.wpList_append_run _ rfl _ _ _ _ rfl _ _ rfl rfl _ _ (FR.out _) ?_)
  | (with_reducible refine impl_Table_put.ins_wpcopy _ rfl (.tmp 43) (.tmp 44) 30 30 rfl _ _ rfl rfl (CA.out _ _) ?_))
 go_region_law (refine impl_Table_put.ins_stepcopy rfl _ _ 30 30 rfl (.slice (some ⟨W.heap.size,2,none⟩) n (G - 1)) (.slice (some ⟨g,0,none⟩) n c) (by simp [Act.eval,Act.put]) (by simp [Act.eval,Act.put]) (CB.out 3 (G - 1) c) ?_)
 go_wp2
 go_ret
 exact ⟨G,Z2,rfl,g1,g2,F4.out,F3.out,F2.out,F1.out⟩
set_option maxHeartbeats 8000000 in
set_option maxRecDepth 100000 in
theorem impl_Table_put.ins_shift (x : S36) (l : List S36) (n c g vb : Nat) (cur : Array Value) (inner : List Value) (W : World) (hvb : W.heap[vb]? = some (.cells #[.string x.f0,.string x.f1] 36 (0,0))) (hg : W.heap[g]? = some (.cells cur 36 (0,0)))
 (hvg : vb ≠ g) (hn : l.length = n) (hn0 : 0 < n) (hc : n + 1 ≤ c) (hc63 : c ≤ maxLen) (hcs : cur.size = c * 2) (hcur : cur.toList.take (n * 2) = inner) (hil : inner.length = n * 2) (h1 : ∀ v ∈ inner,v.oneCell' = true) :
 Calls Tryz.prog 58 #[.slice (some ⟨g,0,none⟩) n c,.int .i64 0,.slice (some ⟨vb,0,none⟩) 1 1] W fun e w' => ∃ (Z : Array Value),e = .returned (.slice (some ⟨g,0,none⟩) (n + 1) c) ∧ Z.size = c * 2 ∧ Z.toList.take ((n + 1) * 2) = .string x.f0 :: .string x.f1 :: inner ∧ W.grownBy w' (some g) ∧ w'.heap[g]? = some (.cells Z 36 (0,0)):=by
 have hu30:=Tryz.underlying30
 unfold maxLen at hc63
 obtain ⟨i0,hinf,hz0,hzs,hzb⟩:=info_parts info36
 have hsz : (Tryz.prog.info? 36).map (·.size) = some 2:=by rw [hinf];simp [hzs]
 have hvlt : vb < W.heap.size:=zo3_ hvb
 have hglt : g < W.heap.size:=zo3_ hg
 have hov : ∀ lb cb,(callFunc 64 #[.slice (some ⟨vb,0,none⟩) 1 1,.slice (some ⟨g,2,none⟩) lb cb]).run Tryz.prog W = .ok (.value (.bool false)) W:=fun lb cb => by
  rw [run_callFunc_extern Tryz.func64 (by kernel_rfl) (by kernel_rfl) (by kernel_rfl) (e:=Extern.SlicesOverlaps.overlaps #[30,30] #[4]) (by kernel_rfl),
   Lib.run_overlaps_apart W 30 4 36 Tryz.underlying30 2 (fun w => by simp [sizeOf,typeInfo,hinf,hzs]) ⟨vb,0,none⟩ ⟨g,2,none⟩ 1 1 lb cb hvg 36 36 2 (c * 2) (by simp [World.shape?,hvb]) (by simp [World.shape?,hg,hcs]) (by omega) (zm7_ hvb 0) (zm7_ hvb 2)]
  rfl
 obtain ⟨Z1,hZ1⟩ : ∃ Z1,Z1 = (cur.toList.take 2 ++ inner ++ cur.toList.drop (2 + inner.length)).toArray:=⟨_,rfl⟩
 obtain ⟨W2,hW2⟩ : ∃ W2,W2 = W.drew.setRow g Z1:=⟨_,rfl⟩
 have hg0 : W.drew.heap[g]? = some (.cells cur 36 (0,0)):=hg
 have hcpB : ∀ ty dc sc,(Builtin.copy_ #[30,30] ty #[.slice (some ⟨g,2,none⟩) n dc,.slice (some ⟨g,0,none⟩) (n + 1) sc]).run Tryz.prog W.drew = .ok (goInt n) W2:=fun ty dc sc => by
  rw [hW2,hZ1]
  exact impl_Table_put.ins_copy W.drew 30 30 ty 36 2 g 2 n dc ⟨g,0,none⟩ (n + 1) sc cur 36 inner n Tryz.underlying30 hsz hg0 (by simp only [Nat.min_def];split <;> omega) hil
   (fun j v hj => by
    rw [Addr.add_lit,Nat.zero_add,zm6_ hg0 j]
    rw [← hcur,List.getElem?_take] at hj
    split at hj
    ·
     simpa using hj
    ·
     cases hj) (by omega) h1
 have hg2 : W2.heap[g]? = some (.cells Z1 36 (0,0)):=by rw [hW2];exact setRow_heap W.drew _ _ _ _ _ hg0
 have hv2 : W2.heap[vb]? = some (.cells #[.string x.f0,.string x.f1] 36 (0,0)):=by rw [hW2,setRow_other _ _ _ _ hvg];exact hvb
 have hB2 : W.grownBy W2 (some g):=by
  rw [hW2]
  exact ⟨rfl,rfl,rfl,by simp [World.setRow],fun k hk hne => setRow_other W.drew _ k _ (fun e => hne (by rw [e]))⟩
 have hZ1s : Z1.size = c * 2:=by
  have:=congrArg List.length hcur
  rw [hZ1]
  simp only [List.size_toArray,List.length_append,List.length_take,List.length_drop,Array.length_toList] at this ⊢
  omega
 have hZ1d : Z1.toList.drop 2 = inner ++ cur.toList.drop (2 + inner.length):=by
  have h2 : (cur.toList.take 2).length = 2:=by simp only [List.length_take,Array.length_toList];omega
  rw [hZ1,List.append_assoc]
  show (cur.toList.take 2 ++ _).drop 2 = _
  rw [List.drop_append_of_le_length (by omega),List.drop_of_length_le (by omega),List.nil_append]
 obtain ⟨Z2,hZ2⟩ : ∃ Z2,Z2 = (Z1.toList.take 0 ++ [Value.string x.f0,Value.string x.f1] ++ Z1.toList.drop (0 + [Value.string x.f0,Value.string x.f1].length)).toArray:=⟨_,rfl⟩
 obtain ⟨W3,hW3⟩ : ∃ W3,W3 = W2.setRow g Z2:=⟨_,rfl⟩
 have hcpA : ∀ ty dc,(Builtin.copy_ #[30,30] ty #[.slice (some ⟨g,0,none⟩) (n + 1) dc,.slice (some ⟨vb,0,none⟩) 1 1]).run Tryz.prog W2 = .ok (goInt 1) W3:=fun ty dc => by
  rw [hW3,hZ2]
  exact impl_Table_put.ins_copy W2 30 30 ty 36 2 g 0 (n + 1) dc ⟨vb,0,none⟩ 1 1 Z1 36 [.string x.f0,.string x.f1] 1 Tryz.underlying30 hsz hg2 (by simp only [Nat.min_def];split <;> omega) rfl
   (fun j v hj => by rw [Addr.add_lit,Nat.zero_add,zm6_ hv2 j];simpa using hj) (by simp only [List.length_cons,List.length_nil];omega) (by simp only [List.mem_cons,List.not_mem_nil,or_false];rintro v (rfl|rfl) <;> rfl)
 have hg3 : W3.heap[g]? = some (.cells Z2 36 (0,0)):=by rw [hW3];exact setRow_heap W2 _ _ _ _ _ hg2
 have hB3 : W.grownBy W3 (some g):=by
  rw [hW3]
  exact hB2.trans ⟨rfl,rfl,rfl,by simp [World.setRow],fun k hk hne => setRow_other W2 _ k _ (fun e => hne (by rw [e]))⟩
 have hZ2l : Z2.toList = Value.string x.f0 :: Value.string x.f1 :: (inner ++ cur.toList.drop (2 + inner.length)):=by rw [hZ2,← hZ1d];simp
 have hZ2t : Z2.toList.take ((n + 1) * 2) = Value.string x.f0 :: Value.string x.f1 :: inner:=by
  rw [hZ2l,show (n + 1) * 2 = n * 2 + 1 + 1 by omega,List.take_succ_cons,List.take_succ_cons,← hil,List.take_left]
 have hZ2s : Z2.size = c * 2:=by
  rw [hZ2]
  simp only [List.size_toArray,List.length_append,List.length_take,List.length_drop,Array.length_toList,List.length_cons,List.length_nil]
  omega
 have hw1 : IntKind.i64.wrap 1 = 1:=by decide
 have hb1 : (1 : Int) ≤ (n : Int) + 1:=by omega
 have hb2 : ¬ ((c : Int) < (n : Int) + 1):=by omega
 have hb3 : (0 : Int) ≤ (n : Int) + 1:=by omega
 have hc1 : ¬ (c = 1):=by omega
 have hc0 : ¬ (c = 0):=by omega
 have CA:=zm0_ hcpA
 have CB:=zm0_ hcpB
 have CO:=zm0_ hov
 have F1:=zm0_ hg3
 have F2:=zm0_ hB3
 have F3:=zm0_ hZ2t
 have F4:=zm0_ hZ2s
 clear hcpA hcpB hov hg3 hB3 hZ2t hZ2s hZ2l hW3 hZ2 hZ1d hZ1s hB2 hv2 hg2 hg0 hW2 hZ1 h1 hil hcur hcs hn hg hvb hinf hz0 hzs hzb hsz
 go_enter Tryz.func58,Tryz.ntmps58
 go_wp2_with (first
  | (simp only [CO.out])
  | (with_reducible refine impl_Table_put.ins_wpcopy _ rfl (.tmp 80) (.tmp 81) 30 30 rfl _ _ rfl rfl (CA.out _ _) ?_))
 go_region_law (refine impl_Table_put.ins_stepcopy rfl _ _ 30 30 rfl (.slice (some ⟨g,2,none⟩) n (c - 1)) (.slice (some ⟨g,0,none⟩) (n + 1) c) (by simp [Act.eval,Act.put]) (by simp [Act.eval,Act.put]) (CB.out 3 (c - 1) c) ?_)
 go_wp2_with (first
  | (with_reducible refine impl_Table_put.ins_wpcopy _ rfl (.tmp 80) (.tmp 81) 30 30 rfl _ _ rfl rfl (CA.out _ _) ?_))
 go_ret
 exact ⟨Z2,rfl,F4.out,F3.out,F2.out,F1.out⟩
/-- slices.Insert at the place 0 of a row of the call's own: the row with the field ahead. -/
theorem impl_Table_put.ins (v : Value) (x : S36) (l : List S36) (w0 W : World) (base vb : Nat) (ok : Nat → Prop) (hvb : W.heap[vb]? = some (.cells #[.string x.f0,.string x.f1] 36 (0,0))) (hnb : ¬ ok vb) (hok : ∀ k,W.heap.size ≤ k → ok k) (HO : Kd.R k36 36 W base ok v l) (HB : Below base w0 W) (hbase : base ≤ W.heap.size) (hl : (l.length + 1) * 32 ≤ 140737488355328) :
 Calls Tryz.prog 58 #[v,.int .i64 0,.slice (some ⟨vb,0,none⟩) 1 1] W fun e w' => ∃ v' : Value,e = .returned v' ∧ Kd.R k36 36 w' base ok v' (x :: l) ∧ Below base w0 w' ∧ W.grownBy w' v.ownBlock:=by
 by_cases h0 : l = []
 ·
  subst h0
  exact impl_Table_put.ins_end v x w0 W base vb ok hvb hok HO HB hbase
 have hl0 : 0 < l.length:=List.length_pos_iff.mpr h0
 obtain ⟨hk0,inner,hown,hr⟩:=HO
 have h1:=impl_Table_put.ins_one hr
 obtain ⟨hil0,hh⟩:=hown
 have hil : inner.length = l.length * 2:=hil0
 rcases hh with ⟨_,hz⟩|⟨g,c,cur,rfl,hbg,hg,hnc,hcm,hcs,hcur⟩
 ·
  omega
 have hgo : ok g:=hk0 g rfl
 have hvg : vb ≠ g:=fun e => hnb (e ▸ hgo)
 by_cases hc : c < l.length + 1
 ·
  refine (impl_Table_put.ins_grow x l l.length c g vb cur inner W hvb hg rfl hl0 hnc hc hcur hil h1 hl).mono ?_
  rintro e w' ⟨G,Z,rfl,g1,g2,hZs,hZt,hB,hh⟩
  refine ⟨_,rfl,⟨fun k hk => ?_,_,⟨?_,.inr ⟨W.heap.size,G,Z,rfl,hbase,hh,g1,g2,hZs,hZt⟩⟩,impl_Table_put.ins_reps x hr _ _ _⟩,below_then HB hbase hB,?_⟩
  ·
   have : W.heap.size = k:=by simpa [Value.ownBlock] using hk
   exact hok k (by omega)
  ·
   show inner.length + 1 + 1 = (l.length + 1) * 2
   omega
  ·
   exact ⟨hB.os,hB.tape,hB.output,hB.size,fun k hk _ => hB.block k hk⟩
 ·
  refine (impl_Table_put.ins_shift x l l.length c g vb cur inner W hvb hg hvg rfl hl0 (by omega) hcm hcs hcur hil h1).mono ?_
  rintro e w' ⟨Z,rfl,hZs,hZt,hG,hh⟩
  refine ⟨_,rfl,⟨hk0,_,⟨?_,.inr ⟨g,c,Z,rfl,hbg,hh,by simp only [List.length_cons];omega,hcm,hZs,hZt⟩⟩,impl_Table_put.ins_reps x hr _ _ _⟩,HB.grown hG hbase (fun k hk => ?_),hG⟩
  ·
   show inner.length + 1 + 1 = (l.length + 1) * 2
   omega
  ·
   have : g = k:=by simpa using hk
   omega
theorem impl_Table_put.own_ {w : World} {b : Nat} {ok : Nat → Prop} {v : Value} {l : List S36} (h : Kd.R k36 36 w b ok v l) : Kd.R k36 36 w b (fun k => some k = v.ownBlock) v l:=by
 obtain ⟨_,inner,hown,hr⟩:=h
 exact ⟨fun k hk => hk.symm,inner,hown,hr.imp_ (fun y cs hy => by rw [k36_openM hy];exact k36_mkM _ _ _ y)⟩
/-- What trim leaves,told of the table's block. -/
theorem impl_Table_put.trimmed (g : Nat) (m : Int) (A : Option Addr) (c : Nat) (L : List S36) (w0 W Wt w13 : World) (own : Nat → Prop) (hp : impl_Table_put.Post g L Wt w13 (impl_Table_put.tr L.length m L 0))
 (hg : Wt.heap[g]? = some (.cells #[.int .i64 m,.slice A L.length c] 32 (0,0))) (hR : Kd.R k36 36 Wt w0.heap.size (fun k => own k ∨ W.heap.size ≤ k) (.slice A L.length c) L) (hB : Below w0.heap.size w0 Wt) (hgb : w0.heap.size ≤ g) (hK : Kept W Wt (fun k => k = g ∨ own k)) :
 ∃ v : Value,w13.heap[g]? = some (.cells #[.int .i64 m,v] 32 (0,0)) ∧ Kd.R k36 36 w13 w0.heap.size (fun k => own k ∨ W.heap.size ≤ k) v (impl_Table_put.cut m L) ∧ Below w0.heap.size w0 w13 ∧ Kept W w13 (fun k => k = g ∨ own k):=by
 unfold impl_Table_put.Post at hp
 rcases hp with ⟨h,hb⟩|⟨i,w1,v,h,hb,hr,rfl⟩
 ·
  have hcut : impl_Table_put.cut m L = L:=by unfold impl_Table_put.cut;rw [h]
  rw [hcut]
  exact ⟨_,zm5_ hg hb,zm8_ hR hb,zn8_ hB hb,hK.below hb⟩
 ·
  have hcut : impl_Table_put.cut m L = L.take i:=by unfold impl_Table_put.cut;rw [h]
  rw [hcut]
  have b5:=zm5_ hg hb
  refine ⟨v,blk_put (cs:=#[.int .i64 m,.slice A L.length c]) b5 1 _ rfl,?_,zm1_ (zn8_ hB hb) hgb,(hK.below hb).setCell (.inl (.inl rfl)) v⟩
  have s1 : w0.heap.size ≤ Wt.heap.size:=hB.size
  have s2 : W.heap.size ≤ Wt.heap.size:=hK.1
  refine zo2_ (k4_ (p:=⟨g,1,none⟩) (Kd.R_types (zo1_ (Kd.R_bound hr) s1) b5 (by decide)) (fun _ hk => hk.2) v) (fun k hk => .inr ?_)
  have:=hk.1.2.1
  omega
/-- What add leaves. -/
def impl_Table_put.AddPost (g : Nat) (m : Int) (own : Nat → Prop) (L : List S36) (w0 W : World) (e : Ending) (w' : World) : Prop :=
 e = .returned (.tuple #[]) ∧ ∃ v : Value,w'.heap[g]? = some (.cells #[.int .i64 m,v] 32 (0,0)) ∧ Kd.R k36 36 w' w0.heap.size (fun k => own k ∨ W.heap.size ≤ k) v (impl_Table_put.cut m L) ∧ Below w0.heap.size w0 w' ∧ Kept W w' (fun k => k = g ∨ own k)
set_option maxHeartbeats 8000000 in
set_option maxRecDepth 100000 in
theorem impl_Table_put.add (g : Nat) (m : Int) (A : Option Addr) (c : Nat) (l : List S36) (x : S36) (w0 W : World) (ok : Nat → Prop) (hB : Below w0.heap.size w0 W) (hgb : w0.heap.size ≤ g)
 (hb : W.heap[g]? = some (.cells #[.int .i64 m,.slice A l.length c] 32 (0,0))) (HO : Kd.R k36 36 W w0.heap.size ok (.slice A l.length c) l) (hl : l.length + 1 < 4398046511104) :
 Calls Tryz.prog 48 #[.pointer (some ⟨g,0,none⟩),.agg #[.string x.f0,.string x.f1]] W (impl_Table_put.AddPost g m (fun k => some k = (Value.slice A l.length c).ownBlock) (x :: l) w0 W):=by
 have hu1:=Tryz.underlying32
 have hu2:=Tryz.underlying36
 have hu3:=Tryz.underlying30
 obtain ⟨own,hown⟩ : ∃ own : Nat → Prop,own = fun k => some k = (Value.slice A l.length c).ownBlock:=⟨_,rfl⟩
 have hone : ∀ k,own k ↔ some k = (Value.slice A l.length c).ownBlock:=fun k => by rw [hown]
 rw [← hown]
 obtain ⟨L,hL⟩ : ∃ L,L = x :: l:=⟨_,rfl⟩
 have hLl : L.length = l.length + 1:=by rw [hL];rfl
 rw [← hL]
 have HG:=zm0_ (Kd.R_ne HO hb (by decide))
 have HLT:=zm0_ (Kd.R_lt HO)
 have HOW:=zm0_ hone
 have HO':=zm0_ (impl_Table_put.own_ HO)
 rw [← hown] at HO'
 have HB:=zm0_ hB
 have HGB:=zm0_ hgb
 have BK:=zm0_ hb
 have HL:=zm0_ hl
 have HLL:=zm0_ hLl
 have HLE:=zm0_ hL
 clear hb hB hgb hl hone hown hLl hL HO
 go_enter Tryz.func48,Tryz.ntmps48
 go_wp2_with ((with_reducible refine gate_dst (N:=3) rfl ?_);refine box_event ?hg (N:=3) ?hd (cs:=#[.string x.f0,.string x.f1]) (t:=36) ?hr ?_;(case hd => rfl);(case hg => rfl);(case hr => first|(go_simp;done)|(go_simp;rfl));intro gx hg w8 hbox hb;have BKX:=zm0_ (k7_ hbox);have HB8:=zm0_ (zm4_ (zn8_ HB.out hb));have HK8:=zm0_ ((Kept.of_below hb (fun k => k = g ∨ own k)).drew);have HO8:=zm0_ (k3_ (zm8_ HO'.out hb));have BK8:=zm0_ (k7_ (zm5_ BK.out hb));have HLT8:=zm0_ ((fun k hk => Nat.lt_of_lt_of_le (HLT.out k hk) hb.size) : ∀ k,(Value.slice A l.length c).ownBlock = some k → k < w8.heap.size);have GX8:=zm0_ ((by rw [hg];exact Nat.le_refl _) : W.heap.size ≤ gx);clear hg hb hbox)
 refine start_ (n:=11) (S:=fun w' => w'.cell? ⟨g,1,none⟩ = some (.slice A l.length c) ∧ w'.cell? ⟨gx,0,none⟩ = some (.string x.f0) ∧ w'.cell? ⟨gx,1,none⟩ = some (.string x.f1)) (ds:=[10]) #[Z,Z,Z,Z,Z,Z,Z,Z,Z,Z,Z] (by kernel_rfl) rfl rfl ⟨(zm6_ BK8.out 1).trans rfl,(zm6_ BKX.out 0).trans rfl,(zm6_ BKX.out 1).trans rfl⟩ (fun hHeld => ?_)
 generalize hwd : w8.drew = w9 at BKX BK8 HB8 HK8 HO8 hHeld ⊢
 have HLT9 : Aside0 (∀ k,(Value.slice A l.length c).ownBlock = some k → k < w9.heap.size):=by rw [← hwd];exact HLT8
 clear hwd HLT8
 refine pure_ (i:=0) (N:=some 4) (v:=?_) (a':=?_) #[Y,Z,Z,Z,Z,Z,Z,Z,Z,Z,Z] rfl rfl (by kernel_rfl) (fun _ _ _ h => h) (Or.inl ⟨by rfl,?_⟩) ?_ ?_
 rotate_left
 ·
  intro w'
  go_simp
  with_reducible rfl
 rotate_left
 ·
  simp only [Act.put,lA_,lB_,lC_,i64_w,i32_w]
  rfl
 refine pure_ (i:=1) (N:=some 5) (v:=?_) (a':=?_) #[Y,Y,Z,Z,Z,Z,Z,Z,Z,Z,Z] rfl rfl (by kernel_rfl) (fun _ _ _ h => h) (Or.inl ⟨by rfl,?_⟩) ?_ ?_
 rotate_left
 ·
  intro w'
  go_simp
  with_reducible rfl
 rotate_left
 ·
  simp only [Act.put,lA_,lB_,lC_,i64_w,i32_w]
  rfl
 refine pure_ (i:=2) (N:=some 6) (v:=?_) (a':=?_) #[Y,Y,Y,Z,Z,Z,Z,Z,Z,Z,Z] rfl rfl (by kernel_rfl) (fun _ _ _ h => h) (Or.inl ⟨by rfl,?_⟩) ?_ ?_
 rotate_left
 ·
  intro w'
  go_simp
  with_reducible rfl
 rotate_left
 ·
  simp only [Act.put,lA_,lB_,lC_,i64_w,i32_w]
  rfl
 refine pure_ (i:=3) (N:=some 7) (v:=?_) (a':=?_) #[Y,Y,Y,Y,Z,Z,Z,Z,Z,Z,Z] rfl rfl (by kernel_rfl) (fun _ _ _ h => h) (Or.inl ⟨by rfl,?_⟩) ?_ ?_
 rotate_left
 ·
  intro w'
  go_simp
  with_reducible rfl
 rotate_left
 ·
  simp only [Act.put,lA_,lB_,lC_,i64_w,i32_w]
  rfl
 refine take_ (i:=4) (N:=some 8) (v:=?_) (a':=?_) #[Y,Y,Y,Y,Y,Z,Z,Z,Z,Z,Z] rfl rfl (by kernel_rfl) (fun _ _ _ h => h) (Or.inl ⟨by rfl,?_⟩) hHeld ?_ ?_
 rotate_left
 ·
  rintro w' ⟨s0,s1,s2⟩
  go_simp
  with_reducible rfl
 rotate_left
 ·
  simp only [Act.put,lA_,lB_,lC_,i64_w,i32_w]
  rfl
 refine take_ (i:=5) (N:=some 9) (v:=?_) (a':=?_) #[Y,Y,Y,Y,Y,Y,Z,Z,Z,Z,Z] rfl rfl (by kernel_rfl) (fun _ _ _ h => h) (Or.inl ⟨by rfl,?_⟩) hHeld ?_ ?_
 rotate_left
 ·
  rintro w' ⟨s0,s1,s2⟩
  go_simp
  with_reducible rfl
 rotate_left
 ·
  simp only [Act.put,lA_,lB_,lC_,i64_w,i32_w]
  rfl
 refine one_ (i:=6) (N:=some 10) #[Y,Y,Y,Y,Y,Y,Y,Z,Z,Z,Z] rfl rfl (by kernel_rfl) (by decide) (fun K hK => ?_)
 refine value_ (w1:=w9.alloc (.cells #[.string x.f0,.string x.f1] 36)) (v:=.slice (some ⟨w9.heap.size,0,none⟩) 1 1) (by rfl) rfl ?_ ?_
 ·
  first|(go_simp;done)|(go_simp;rfl)
 refine hK.out _ _ ⟨(zm6_ (k5_ BK8.out _) 1).trans rfl,(zm6_ (k5_ BKX.out _) 0).trans rfl,(zm6_ (k5_ BKX.out _) 1).trans rfl⟩ (fun hHeld => ?_)
 clear hK K
 refine norm_ (a':=?_) ?_ ?_
 rotate_left
 ·
  show Act.put _ (some 10) _ = _
  simp only [Act.put,lA_,lB_,lC_,i64_w,i32_w]
  rfl
 refine one_ (i:=7) (N:=some 11) #[Y,Y,Y,Y,Y,Y,Y,Y,Z,Z,Z] rfl rfl (by kernel_rfl) (by decide) (fun K hK => ?_)
 refine goes_ Tryz.func58 (by kernel_rfl) rfl #[.slice A l.length c,.int .i64 0,.slice (some ⟨w9.heap.size,0,none⟩) 1 1] (by rfl) rfl rfl (by (try simp only [zp1_,zp2_,zp3_]);first|done|rfl) ?_
 with_reducible refine (impl_Table_put.ins (.slice A l.length c) x l w0 _ w0.heap.size w9.heap.size (fun k => own k ∨ w9.heap.size + 1 ≤ k) ?s1 ?s2 ?s3 ?s4 ?s5 ?s6 ?s7).mono ?_
 case s1 => exact heap_alloc_new w9 _
 case s2 =>
  rintro (hq|hq)
  ·
   exact Nat.lt_irrefl _ (HLT9.out _ ((HOW.out _).1 hq).symm)
  ·
   exact Nat.not_succ_le_self _ hq
 case s3 =>
  intro k hk
  rw [World.size_alloc] at hk
  exact .inr hk
 case s4 => exact zo2_ (k1_ HO8.out _) (fun k hk => .inl hk)
 case s5 => exact zm3_ HB8.out _
 case s6 => exact zn9_ (zm3_ HB8.out _)
 case s7 => have:=HL.out;omega
 rintro e w11 ⟨v11,rfl,h1,h2,h3⟩
 rw [← HLE.out] at h1
 obtain ⟨A11,c11,ev⟩:=Kd.R_slice h1
 subst ev
 refine ⟨_,rfl,?_⟩
 have HO11:=zm0_ (zo2_ h1 (fun k hk => (hk.imp id (fun hk => Nat.le_trans HK8.out.1 (Nat.le_trans (Nat.le_succ _) hk)) : own k ∨ W.heap.size ≤ k)))
 have HB11:=zm0_ h2
 have BK11:=zm0_ ((h3.block g (Nat.lt_of_lt_of_le (zo3_ BK8.out) (by rw [World.size_alloc];omega)) HG.out).trans (k5_ BK8.out _))
 have BKX11:=zm0_ ((h3.block gx (Nat.lt_of_lt_of_le (zo3_ BKX.out) (by rw [World.size_alloc];omega)) (fun e => by have:=HLT.out gx e.symm;have:=GX8.out;omega)).trans (k5_ BKX.out _))
 have HK11:=zm0_ (Kept.of_grown h3 (HK8.out.alloc _) (fun k hk => .inl (.inr ((HOW.out k).2 hk.symm))))
 clear h1 h2 h3
 refine hK.out _ _ ⟨(zm6_ BK11.out 1).trans rfl,(zm6_ BKX11.out 0).trans rfl,(zm6_ BKX11.out 1).trans rfl⟩ (fun hHeld => ?_)
 clear hK K
 refine norm_ (a':=?_) ?_ ?_
 rotate_left
 ·
  show Act.put _ (some 11) _ = _
  simp only [Act.put,lA_,lB_,lC_,i64_w,i32_w]
  rfl
 refine pure_ (i:=8) (N:=some 12) (v:=?_) (a':=?_) #[Y,Y,Y,Y,Y,Y,Y,Y,Y,Z,Z] rfl rfl (by kernel_rfl) (fun _ _ _ h => h) (Or.inl ⟨by rfl,?_⟩) ?_ ?_
 rotate_left
 ·
  intro w'
  go_simp
  with_reducible rfl
 rotate_left
 ·
  simp only [Act.put,lA_,lB_,lC_,i64_w,i32_w]
  rfl
 refine pure_ (i:=9) (N:=some 13) (v:=?_) (a':=?_) #[Y,Y,Y,Y,Y,Y,Y,Y,Y,Y,Z] rfl rfl (by kernel_rfl) (fun _ _ _ h => h) (Or.inl ⟨by rfl,?_⟩) ?_ ?_
 rotate_left
 ·
  intro w'
  go_simp
  with_reducible rfl
 rotate_left
 ·
  simp only [Act.put,lA_,lB_,lC_,i64_w,i32_w]
  rfl
 refine last_ (i:=10) (N:=none) #[Y,Y,Y,Y,Y,Y,Y,Y,Y,Y,Y] rfl rfl (by kernel_rfl) (by decide) (fun K hK => ?_)
 have hcz4 : w11.cell? ⟨g,1,none⟩ = some (.slice A l.length c):=(zm6_ BK11.out 1).trans rfl
 have hfz4:=zm7_ BK11.out 1
 refine skip_ (w1:=w11.setCell ⟨g,1,none⟩ (.slice A11 L.length c11)) (by rfl) rfl ?_ ?_
 ·
  first|(go_simp;done)|(go_simp;rfl)
 refine hK.out _ _ ?_
 clear hK K
 refine done_ (by kernel_rfl) ?_
 have BK12:=zm0_ (blk_put (cs:=#[.int .i64 m,.slice A l.length c]) BK11.out 1 (.slice A11 L.length c11) rfl)
 have HO12:=zm0_ (zo2_ (k4_ (p:=⟨g,1,none⟩) (Kd.R_types HO11.out BK11.out (by decide)) (fun _ hk => hk.2) (.slice A11 L.length c11)) (fun _ hk => hk.1))
 have HB12:=zm0_ (zm1_ HB11.out HGB.out : Below w0.heap.size w0 (w11.setCell ⟨g,1,none⟩ (.slice A11 L.length c11)))
 have HK12:=zm0_ (HK11.out.setCell (p:=⟨g,1,none⟩) (.inl (.inl rfl)) (.slice A11 L.length c11))
 generalize w11.setCell ⟨g,1,none⟩ (.slice A11 L.length c11) = w12 at BK12 HO12 HB12 HK12 ⊢
 clear hcz4 hfz4 hHeld
 go_wp2_with ((with_reducible refine gate_callee (f:=59) rfl ?_);refine goesL_ (some 15) rfl rfl Tryz.func59 (by kernel_rfl) rfl #[.pointer (some ⟨g,0,none⟩)] rfl (by (try simp only [zp1_,zp2_,zp3_]);first|done|rfl) ?_;(with_reducible refine (impl_Table_put.trim g m A11 c11 L _ ?s1 ?s2 ?s3 ?s4).mono ?_);(case s1 => exact BK12.out);(case s2 => exact (Kd.R_reads' HO12.out).2.2);(case s3 => exact (Kd.R_reads' HO12.out).2.1);(case s4 => rw [HLL.out];exact HL.out);rintro e w13 ⟨rfl,hp⟩;refine ⟨_,rfl,?_⟩;have HP:=zm0_ (impl_Table_put.trimmed g m A11 c11 L w0 W _ w13 own hp BK12.out HO12.out HB12.out HGB.out HK12.out);clear hp)
 go_end0
 exact ⟨rfl,HP.out⟩
/-- What stands while put runs: the table's cells and row,the field's cells,the bytes' row. -/
def impl_Table_put.St (g gx : Nat) (m : Int) (tv : Value) (l : List S36) (n v : ByteArray) (bv : Value) (lb : List Int) (own : Nat → Prop) (w0 W w : World) : Prop :=
 Below w0.heap.size w0 w ∧ Kept W w (fun k => k = g ∨ own k) ∧ w.heap[g]? = some (.cells #[.int .i64 m,tv] 32 (0,0)) ∧ w.heap[gx]? = some (.cells #[.string n,.string v] 36 (0,0)) ∧ Kd.R k36 36 w w0.heap.size (fun k => own k ∨ W.heap.size ≤ k) tv l ∧ Kd.R (Kd.int .u8) 5 w w0.heap.size (fun k => own k ∨ W.heap.size ≤ k) bv lb
/-- What put leaves. -/
def impl_Table_put.Fin (g : Nat) (m : Int) (l : List S36) (bv : Value) (lb : List Int) (own : Nat → Prop) (w0 W w : World) : Prop :=
 (∃ tv : Value,w.heap[g]? = some (.cells #[.int .i64 m,tv] 32 (0,0)) ∧ Kd.R k36 36 w w0.heap.size (fun k => own k ∨ W.heap.size ≤ k) tv l) ∧ Kd.R (Kd.int .u8) 5 w w0.heap.size (fun k => own k ∨ W.heap.size ≤ k) bv lb ∧ Below w0.heap.size w0 w ∧ Kept W w (fun k => k = g ∨ own k)
theorem impl_Table_put.drawn_below {w w' : World} (h : Drawn0 w w') : Below w.heap.size w w':=by
 obtain ⟨n,rfl⟩:=h
 exact zm2_ (Below.refl _ _) n
section
variable {g gx : Nat} {m : Int} {tv bv bv' : Value} {l : List S36} {n v : ByteArray} {lb lb' : List Int} {own : Nat → Prop} {w0 W w w' : World}
theorem impl_Table_put.St.below (h : impl_Table_put.St g gx m tv l n v bv lb own w0 W w) (hb : Below w.heap.size w w') : impl_Table_put.St g gx m tv l n v bv lb own w0 W w' :=
 ⟨zn8_ h.1 hb,h.2.1.below hb,zm5_ h.2.2.1 hb,zm5_ h.2.2.2.1 hb,zm8_ h.2.2.2.2.1 hb,zm8_ h.2.2.2.2.2 hb⟩
theorem impl_Table_put.St.drew (h : impl_Table_put.St g gx m tv l n v bv lb own w0 W w) : impl_Table_put.St g gx m tv l n v bv lb own w0 W w.drew:=h.below (below_drew (Below.refl _ _))
theorem impl_Table_put.St.drewN (h : impl_Table_put.St g gx m tv l n v bv lb own w0 W w) (i : Nat) : impl_Table_put.St g gx m tv l n v bv lb own w0 W (w.drewN i):=h.below (zm2_ (Below.refl _ _) i)
theorem impl_Table_put.St.cells (h : impl_Table_put.St g gx m tv l n v bv lb own w0 W w) : w.cell? ⟨g,0,none⟩ = some (.int .i64 m) ∧ w.cell? ⟨g,1,none⟩ = some tv ∧ w.cell? ⟨gx,0,none⟩ = some (.string n) ∧ w.cell? ⟨gx,1,none⟩ = some (.string v) :=
 ⟨(zm6_ h.2.2.1 0).trans rfl,(zm6_ h.2.2.1 1).trans rfl,(zm6_ h.2.2.2.1 0).trans rfl,(zm6_ h.2.2.2.1 1).trans rfl⟩
theorem impl_Table_put.St.tight (h : impl_Table_put.St g gx m tv l n v bv lb own w0 W w) : Kd.R (Kd.int .u8) 5 w w0.heap.size (fun k => some k = bv.ownBlock) bv lb:=Kd.R_tight rfl h.2.2.2.2.2
theorem impl_Table_put.St.bytes (h : impl_Table_put.St g gx m tv l n v bv lb own w0 W w) (hR : Kd.R (Kd.int .u8) 5 w' w0.heap.size (fun k => some k = bv.ownBlock ∨ w.heap.size ≤ k) bv' lb') (hB : Below w0.heap.size w0 w') (hK : Kept w w' (fun k => some k = bv.ownBlock)) : impl_Table_put.St g gx m tv l n v bv' lb' own w0 W w':=by
 obtain ⟨h1,h2,h3,h4,h5,h6⟩:=h
 have hown : ∀ k,some k = bv.ownBlock → own k ∨ W.heap.size ≤ k:=fun k hk => h6.1 k hk.symm
 refine ⟨hB,h2.then_ hK (fun k hk => (hown k hk).imp .inr id),blk_kept h3 hK (Kd.R_ne h6 h3 (by decide)),blk_kept h4 hK (Kd.R_ne h6 h4 (by decide)),?_,zo2_ hR (fun k hk => hk.elim (hown k) (fun hk => .inr (Nat.le_trans h2.1 hk)))⟩
 exact zo2_ (Kd.R_kept (Kd.R_apart' h5 (Kd.R_typed h6) (by decide)) hK (fun k hk => hk.2)) (fun k hk => hk.1)
theorem impl_Table_put.St.fin (h : impl_Table_put.St g gx m tv l n v bv lb own w0 W w) : impl_Table_put.Fin g m l bv lb own w0 W w:=⟨⟨tv,h.2.2.1,h.2.2.2.2.1⟩,h.2.2.2.2.2,h.1,h.2.1⟩
theorem impl_Table_put.Fin.below (h : impl_Table_put.Fin g m l bv lb own w0 W w) (hb : Below w.heap.size w w') : impl_Table_put.Fin g m l bv lb own w0 W w':=by
 obtain ⟨⟨tv,h1,h2⟩,h3,h4,h5⟩:=h
 exact ⟨⟨tv,zm5_ h1 hb,zm8_ h2 hb⟩,zm8_ h3 hb,zn8_ h4 hb,h5.below hb⟩
theorem impl_Table_put.Fin.drew (h : impl_Table_put.Fin g m l bv lb own w0 W w) : impl_Table_put.Fin g m l bv lb own w0 W w.drew:=h.below (below_drew (Below.refl _ _))
theorem impl_Table_put.Fin.drewN (h : impl_Table_put.Fin g m l bv lb own w0 W w) (i : Nat) : impl_Table_put.Fin g m l bv lb own w0 W (w.drewN i):=h.below (zm2_ (Below.refl _ _) i)
theorem impl_Table_put.St.finAdd {A : Option Addr} {c : Nat} {L : List S36} {e : Ending} (h : impl_Table_put.St g gx m (.slice A l.length c) l n v bv lb own w0 W w) (hp : impl_Table_put.AddPost g m (fun k => some k = (Value.slice A l.length c).ownBlock) L w0 w e w') : e = .returned (.tuple #[]) ∧ impl_Table_put.Fin g m (impl_Table_put.cut m L) bv lb own w0 W w':=by
 obtain ⟨h1,h2,h3,h4,h5,h6⟩:=h
 obtain ⟨he,tv',p1,p2,p3,p4⟩:=hp
 have hown : ∀ k,some k = (Value.slice A l.length c).ownBlock → own k ∨ W.heap.size ≤ k:=fun k hk => h5.1 k hk.symm
 refine ⟨he,⟨tv',p1,zo2_ p2 (fun k hk => hk.elim (hown k) (fun hk => .inr (Nat.le_trans h2.1 hk)))⟩,?_,p3,h2.then_ p4 (fun k hk => hk.elim (fun hk => .inl (.inl hk)) (fun hk => (hown k hk).imp .inr id))⟩
 exact zo2_ (Kd.R_kept (Kd.R_types (Kd.R_apart' h6 (Kd.R_typed h5) (by decide)) h3 (by decide)) p4 (fun k hk hq => hq.elim hk.2 hk.1.2)) (fun k hk => hk.1.1)
end
def impl_Table_put.f (k : Nat) (m : Int) (l : List S36) (lb : List Int) (n v : ByteArray) (mode : Int) : Option (List Int × List S36) :=
 if l.length + 1 < 4398046511104 then ((impl_FindField.f k m l n v).bind fun p => (if p.2 = true ∧ mode ≠ 3 then ((impl_putPrefix.f k lb 7 128 p.1).bind fun b => some (b,l)) else ((impl_formOf.f mode).bind fun q => ((impl_putPrefix.f k lb q.1 q.2 p.1).bind fun b1 => ((if p.1 = 0 then impl_putString.f k b1 n else some b1).bind fun b2 => ((impl_putString.f k b2 v).bind fun b3 => some (b3,if mode = 1 then impl_Table_put.cut m ((⟨n,v⟩ : S36) :: l) else l))))))) else none
theorem impl_Table_put.mono (k : Nat) (m : Int) (l : List S36) (lb : List Int) (n v : ByteArray) (mode : Int) : LeO (impl_Table_put.f k m l lb n v mode) (impl_Table_put.f (k + 1) m l lb n v mode):=by
 unfold impl_Table_put.f
 exact LeO.ite (LeO.bind (impl_FindField.mono _ _ _ _ _) (fun _ => LeO.ite (LeO.bind (impl_putPrefix.mono _ _ _ _ _) (fun _ => LeO.refl _)) (LeO.bind (LeO.refl _) (fun _ => LeO.bind (impl_putPrefix.mono _ _ _ _ _) (fun _ => LeO.bind (LeO.ite (impl_putString.mono _ _ _) (LeO.refl _)) (fun _ => LeO.bind (impl_putString.mono _ _ _) (fun _ => LeO.refl _))))))) (LeO.none _)
set_option maxHeartbeats 8000000 in
set_option maxRecDepth 100000 in
theorem impl_Table_put.calls (k g : Nat) (m : Int) (A : Option Addr) (c : Nat) (l : List S36) (bv : Value) (lb : List Int) (n v : ByteArray) (mode : Int) (r : List Int) (l' : List S36) (w0 W : World) (okT okB : Nat → Prop) (hB : Below w0.heap.size w0 W) (hgb : w0.heap.size ≤ g)
 (hb : W.heap[g]? = some (.cells #[.int .i64 m,.slice A l.length c] 32 (0,0))) (hT : Kd.R k36 36 W w0.heap.size okT (.slice A l.length c) l) (hY : Kd.R (Kd.int .u8) 5 W w0.heap.size okB bv lb) (ht : TB w0) (h : impl_Table_put.f k m l lb n v mode = some (r,l')) :
 Calls Tryz.prog 34 #[.pointer (some ⟨g,0,none⟩),bv,.agg #[.string n,.string v],.int .i64 mode] W fun e w' => ∃ v0,e = .returned v0 ∧ impl_Table_put.Fin g m l' v0 r (fun k => some k = (Value.slice A l.length c).ownBlock ∨ some k = bv.ownBlock) w0 W w':=by
 have hu1:=Tryz.underlying32
 have hu2:=Tryz.underlying36
 obtain ⟨own,hown⟩ : ∃ own : Nat → Prop,own = fun k => some k = (Value.slice A l.length c).ownBlock ∨ some k = bv.ownBlock:=⟨_,rfl⟩
 have S0 : ∀ gx w,w.heap[gx]? = some (.cells #[.string n,.string v] 36 (0,0)) → Below W.heap.size W w → impl_Table_put.St g gx m (.slice A l.length c) l n v bv lb own w0 W w:=fun gx w hx hbw =>
  ⟨zn8_ hB hbw,Kept.of_below hbw _,zm5_ hb hbw,hx,zo2_ (zm8_ (impl_Table_put.own_ hT) hbw) (fun k hk => .inl (by rw [hown];exact .inl hk)),zo2_ (zm8_ (Kd.R_tight rfl hY) hbw) (fun k hk => .inl (by rw [hown];exact .inr hk))⟩
 rw [← hown]
 have HS0:=zm0_ S0
 have HT:=zm0_ ht
 have HGB:=zm0_ hgb
 clear hB hgb hb hT hY ht hown S0
 unfold impl_Table_put.f at h
 by_cases hl : l.length + 1 < 4398046511104
 ·
  rw [if_pos hl] at h
  have HL:=zm0_ hl
  clear hl
  obtain ⟨⟨i,both⟩,h1,h⟩:=zq1_ h
  have H1:=zm0_ h1
  clear h1
  dsimp only at h
  go_enter Tryz.func34,Tryz.ntmps34
  go_wp2_with (((with_reducible refine gate_dst (N:=6) rfl ?_);refine box_event ?hg (N:=6) ?hd (cs:=#[.string n,.string v]) (t:=36) ?hr ?_;(case hd => rfl);(case hg => rfl);(case hr => first|(go_simp;done)|(go_simp;rfl));intro gx hg w8 hbox hb;have HS8:=zm0_ (HS0.out gx w8 hbox hb);(try clear hc1 hc2 hc3 hc4);obtain ⟨hc1,hc2,hc3,hc4⟩:=HS8.out.cells;clear hg hb hbox))
  have HS8d:=zm0_ HS8.out.drew
  refine start_ (n:=10) (S:=fun w' => w'.cell? ⟨g,0,none⟩ = some (.int .i64 m) ∧ w'.cell? ⟨g,1,none⟩ = some (.slice A l.length c) ∧ w'.cell? ⟨gx,0,none⟩ = some (.string n) ∧ w'.cell? ⟨gx,1,none⟩ = some (.string v)) (ds:=[]) #[Z,Z,Z,Z,Z,Z,Z,Z,Z,Z] (by kernel_rfl) rfl rfl HS8d.out.cells (fun hHeld => ?_)
  clear hc1 hc2 hc3 hc4 HS8
  generalize hwd : w8.drew = w9 at HS8d hHeld ⊢
  clear hwd
  refine pure_ (i:=0) (N:=some 14) (v:=?_) (a':=?_) #[Y,Z,Z,Z,Z,Z,Z,Z,Z,Z] rfl rfl (by kernel_rfl) (fun _ _ _ h => h) (Or.inl ⟨by rfl,?_⟩) ?_ ?_
  rotate_left
  ·
   intro w'
   go_simp
   with_reducible rfl
  rotate_left
  ·
   simp only [Act.put,lA_,lB_,lC_,i64_w,i32_w]
   rfl
  refine pure_ (i:=1) (N:=some 15) (v:=?_) (a':=?_) #[Y,Y,Z,Z,Z,Z,Z,Z,Z,Z] rfl rfl (by kernel_rfl) (fun _ _ _ h => h) (Or.inl ⟨by rfl,?_⟩) ?_ ?_
  rotate_left
  ·
   intro w'
   go_simp
   with_reducible rfl
  rotate_left
  ·
   simp only [Act.put,lA_,lB_,lC_,i64_w,i32_w]
   rfl
  refine take_ (i:=2) (N:=some 16) (v:=?_) (a':=?_) #[Y,Y,Y,Z,Z,Z,Z,Z,Z,Z] rfl rfl (by kernel_rfl) (fun _ _ _ h => h) (Or.inl ⟨by rfl,?_⟩) hHeld ?_ ?_
  rotate_left
  ·
   rintro w' ⟨s0,s1,s2,s3⟩
   go_simp
   with_reducible rfl
  rotate_left
  ·
   simp only [Act.put,lA_,lB_,lC_,i64_w,i32_w]
   rfl
  refine take_ (i:=3) (N:=some 17) (v:=?_) (a':=?_) #[Y,Y,Y,Y,Z,Z,Z,Z,Z,Z] rfl rfl (by kernel_rfl) (fun _ _ _ h => h) (Or.inl ⟨by rfl,?_⟩) hHeld ?_ ?_
  rotate_left
  ·
   rintro w' ⟨s0,s1,s2,s3⟩
   go_simp
   with_reducible rfl
  rotate_left
  ·
   simp only [Act.put,lA_,lB_,lC_,i64_w,i32_w]
   rfl
  refine one_ (i:=4) (N:=some 18) #[Y,Y,Y,Y,Y,Z,Z,Z,Z,Z] rfl rfl (by kernel_rfl) (by decide) (fun K hK => ?_)
  refine goes_ Tryz.func44 (by kernel_rfl) rfl #[.agg #[.int .i64 m,.slice A l.length c],.agg #[.string n,.string v]] (by rfl) rfl rfl (by (try simp only [zp1_,zp2_,zp3_]);first|done|rfl) ?_
  with_reducible refine (impl_FindField.calls k m (fun _ => True) A c l n v i both _ ?sV ?sT H1.out).mono ?_
  case sV => exact Kd.R_V (zo2_ HS8d.out.2.2.2.2.1 (fun _ _ => trivial))
  case sT => exact tb_below HT.out HS8d.out.1
  rintro e w1 ⟨rfl,hb⟩
  refine ⟨_,rfl,?_⟩
  have HS1:=zm0_ (HS8d.out.below hb)
  clear hb HS8d
  refine hK.out _ _ HS1.out.cells (fun hHeld => ?_)
  clear hK K
  refine norm_ (a':=?_) ?_ ?_
  rotate_left
  ·
   show Act.put _ (some 18) _ = _
   simp only [Act.put,lA_,lB_,lC_,i64_w,i32_w]
   rfl
  refine pure_ (i:=5) (N:=some 13) (v:=?_) (a':=?_) #[Y,Y,Y,Y,Y,Y,Z,Z,Z,Z] rfl rfl (by kernel_rfl) (fun _ _ _ h => h) (Or.inl ⟨by rfl,?_⟩) ?_ ?_
  rotate_left
  ·
   intro w'
   go_simp
   with_reducible rfl
  rotate_left
  ·
   simp only [Act.put,lA_,lB_,lC_,i64_w,i32_w]
   rfl
  refine pure_ (i:=6) (N:=some 19) (v:=?_) (a':=?_) #[Y,Y,Y,Y,Y,Y,Y,Z,Z,Z] rfl rfl (by kernel_rfl) (fun _ _ _ h => h) (Or.inl ⟨by rfl,?_⟩) ?_ ?_
  rotate_left
  ·
   intro w'
   go_simp
   with_reducible rfl
  rotate_left
  ·
   simp only [Act.put,lA_,lB_,lC_,i64_w,i32_w]
   rfl
  refine pure_ (i:=7) (N:=some 20) (v:=?_) (a':=?_) #[Y,Y,Y,Y,Y,Y,Y,Y,Z,Z] rfl rfl (by kernel_rfl) (fun _ _ _ h => h) (Or.inl ⟨by rfl,?_⟩) ?_ ?_
  rotate_left
  ·
   intro w'
   go_simp
   with_reducible rfl
  rotate_left
  ·
   simp only [Act.put,lA_,lB_,lC_,i64_w,i32_w]
   rfl
  refine pure_ (i:=8) (N:=some 9) (v:=?_) (a':=?_) #[Y,Y,Y,Y,Y,Y,Y,Y,Y,Z] rfl rfl (by kernel_rfl) (fun _ _ _ h => h) (Or.inl ⟨by rfl,?_⟩) ?_ ?_
  rotate_left
  ·
   intro w'
   go_simp
   with_reducible rfl
  rotate_left
  ·
   simp only [Act.put,lA_,lB_,lC_,i64_w,i32_w]
   rfl
  refine pure_ (i:=9) (N:=some 10) (v:=?_) (a':=?_) #[Y,Y,Y,Y,Y,Y,Y,Y,Y,Y] rfl rfl (by kernel_rfl) (fun _ _ _ h => h) (Or.inl ⟨by rfl,?_⟩) ?_ ?_
  rotate_left
  ·
   intro w'
   go_simp
   with_reducible rfl
  rotate_left
  ·
   simp only [Act.put,lA_,lB_,lC_,i64_w,i32_w]
   rfl
  refine done_ (by kernel_rfl) ?_
  obtain ⟨hc1,hc2,hc3,hc4⟩:=HS1.out.cells
  clear hHeld
  by_cases hc : both = true ∧ mode ≠ 3
  ·
   rw [if_pos hc] at h
   obtain ⟨b1,h2,h⟩:=zq1_ h
   simp only [Option.some.injEq,Prod.mk.injEq] at h
   obtain ⟨rfl,rfl⟩:=h
   obtain ⟨rfl,hm⟩:=hc
   have hmn : (mode != 3) = true:=by simpa using hm
   have H2:=zm0_ h2
   clear h2 hm
   go_wp2_with ((go_at_call 45;(with_reducible refine (impl_putPrefix.calls k (fun k_ => some k_ = bv.ownBlock) bv lb 7 128 i b1 w0 _ ?sB ?sR H2.out).mono ?_);(case sB => exact HS1.out.1);(case sR => exact HS1.out.tight);rintro e w3 ⟨v3,rfl,hR,hB3,hK⟩;have HS3:=zm0_ (HS1.out.bytes hR hB3 hK);clear hR hB3 hK;(try clear hc1 hc2 hc3 hc4);obtain ⟨hc1,hc2,hc3,hc4⟩:=HS3.out.cells))
   go_ret
   exact ⟨_,rfl,HS3.out.fin⟩
  ·
   rw [if_neg hc] at h
   obtain ⟨⟨q1,q2⟩,h2,h⟩:=zq1_ h
   obtain ⟨b1,h3,h⟩:=zq1_ h
   obtain ⟨b2,h4,h⟩:=zq1_ h
   obtain ⟨b3,h5,h⟩:=zq1_ h
   simp only [Option.some.injEq,Prod.mk.injEq] at h
   obtain ⟨rfl,hq⟩:=h
   dsimp only at h3
   have H2:=zm0_ h2
   have H3:=zm0_ h3
   have H5:=zm0_ h5
   have hpk : both = false ∨ (both = true ∧ (mode != 3) = false):=by
    cases both
    ·
     exact .inl rfl
    ·
     refine .inr ⟨rfl,?_⟩
     by_cases e : mode = 3
     ·
      rw [e];rfl
     ·
      exact absurd ⟨rfl,e⟩ hc
   clear h2 h3 h5 hc
   by_cases hi : i = 0
   ·
    rw [if_pos hi] at h4
    have hib : (i == 0) = true:=beq_iff_eq.2 hi
    have H4:=zm0_ h4
    clear h4 hi
    by_cases hm : mode = 1
    ·
     rw [if_pos hm] at hq
     subst hq
     have hmb : (mode == 1) = true:=beq_iff_eq.2 hm
     clear hm
     rcases hpk with rfl|⟨rfl,hmn⟩
     all_goals (go_wp2_with (first|(go_at_call 46;(with_reducible refine (impl_formOf.calls mode q1 q2 _ H2.out).mono ?_);rintro e w2 ⟨rfl,⟨nd,rfl⟩⟩;have HS2:=zm0_ (HS1.out.drewN nd);(try clear hc1 hc2 hc3 hc4);obtain ⟨hc1,hc2,hc3,hc4⟩:=HS2.out.cells)|(go_at_call 45;(with_reducible refine (impl_putPrefix.calls k (fun k_ => some k_ = bv.ownBlock) bv lb q1 q2 i b1 w0 _ ?sB ?sR H3.out).mono ?_);(case sB => exact HS2.out.1);(case sR => exact HS2.out.tight);rintro e w3 ⟨v3,rfl,hR,hB3,hK⟩;have HS3:=zm0_ (HS2.out.bytes hR hB3 hK);clear hR hB3 hK;(try clear hc1 hc2 hc3 hc4);obtain ⟨hc1,hc2,hc3,hc4⟩:=HS3.out.cells)|(go_at_call 47;(with_reducible refine (impl_putString.calls k (fun k_ => some k_ = v3.ownBlock) v3 b1 n b2 w0 _ ?sB ?sR ?sT H4.out).mono ?_);(case sB => exact HS3.out.1);(case sR => exact HS3.out.tight);(case sT => exact tb_below HT.out HS3.out.1);rintro e w4 ⟨v4,rfl,hR,hB3,hK⟩;have HS4:=zm0_ (HS3.out.bytes hR hB3 hK);clear hR hB3 hK;(try clear hc1 hc2 hc3 hc4);obtain ⟨hc1,hc2,hc3,hc4⟩:=HS4.out.cells)|(go_at_call 47;(with_reducible refine (impl_putString.calls k (fun k_ => some k_ = v4.ownBlock) v4 b2 v b3 w0 _ ?sB ?sR ?sT H5.out).mono ?_);(case sB => exact HS4.out.1);(case sR => exact HS4.out.tight);(case sT => exact tb_below HT.out HS4.out.1);rintro e w5 ⟨v5,rfl,hR,hB3,hK⟩;have HS5:=zm0_ (HS4.out.bytes hR hB3 hK);clear hR hB3 hK;(try clear hc1 hc2 hc3 hc4);obtain ⟨hc1,hc2,hc3,hc4⟩:=HS5.out.cells)|(go_at_call 48;(with_reducible refine (impl_Table_put.add g m A c l (⟨n,v⟩ : S36) w0 _ (fun k => own k ∨ W.heap.size ≤ k) ?s1 HGB.out ?s2 ?s3 HL.out).mono ?_);(case s1 => exact HS5.out.1);(case s2 => exact HS5.out.2.2.1);(case s3 => exact HS5.out.2.2.2.2.1);rintro e w6 hp;obtain ⟨rfl,hF⟩:=HS5.out.finAdd hp;have HF:=zm0_ hF;clear hp hF));go_ret;exact ⟨_,rfl,HF.out⟩)
    ·
     rw [if_neg hm] at hq
     subst hq
     have hmb : (mode == 1) = false:=beq_eq_false_iff_ne.2 hm
     clear hm
     rcases hpk with rfl|⟨rfl,hmn⟩
     all_goals (go_wp2_with (first|(go_at_call 46;(with_reducible refine (impl_formOf.calls mode q1 q2 _ H2.out).mono ?_);rintro e w2 ⟨rfl,⟨nd,rfl⟩⟩;have HS2:=zm0_ (HS1.out.drewN nd);(try clear hc1 hc2 hc3 hc4);obtain ⟨hc1,hc2,hc3,hc4⟩:=HS2.out.cells)|(go_at_call 45;(with_reducible refine (impl_putPrefix.calls k (fun k_ => some k_ = bv.ownBlock) bv lb q1 q2 i b1 w0 _ ?sB ?sR H3.out).mono ?_);(case sB => exact HS2.out.1);(case sR => exact HS2.out.tight);rintro e w3 ⟨v3,rfl,hR,hB3,hK⟩;have HS3:=zm0_ (HS2.out.bytes hR hB3 hK);clear hR hB3 hK;(try clear hc1 hc2 hc3 hc4);obtain ⟨hc1,hc2,hc3,hc4⟩:=HS3.out.cells)|(go_at_call 47;(with_reducible refine (impl_putString.calls k (fun k_ => some k_ = v3.ownBlock) v3 b1 n b2 w0 _ ?sB ?sR ?sT H4.out).mono ?_);(case sB => exact HS3.out.1);(case sR => exact HS3.out.tight);(case sT => exact tb_below HT.out HS3.out.1);rintro e w4 ⟨v4,rfl,hR,hB3,hK⟩;have HS4:=zm0_ (HS3.out.bytes hR hB3 hK);clear hR hB3 hK;(try clear hc1 hc2 hc3 hc4);obtain ⟨hc1,hc2,hc3,hc4⟩:=HS4.out.cells)|(go_at_call 47;(with_reducible refine (impl_putString.calls k (fun k_ => some k_ = v4.ownBlock) v4 b2 v b3 w0 _ ?sB ?sR ?sT H5.out).mono ?_);(case sB => exact HS4.out.1);(case sR => exact HS4.out.tight);(case sT => exact tb_below HT.out HS4.out.1);rintro e w5 ⟨v5,rfl,hR,hB3,hK⟩;have HS5:=zm0_ (HS4.out.bytes hR hB3 hK);clear hR hB3 hK;(try clear hc1 hc2 hc3 hc4);obtain ⟨hc1,hc2,hc3,hc4⟩:=HS5.out.cells));go_ret;exact ⟨_,rfl,HS5.out.fin⟩)
   ·
    rw [if_neg hi] at h4
    have hib : (i == 0) = false:=beq_eq_false_iff_ne.2 hi
    obtain rfl:=Option.some.inj h4
    clear h4 hi
    by_cases hm : mode = 1
    ·
     rw [if_pos hm] at hq
     subst hq
     have hmb : (mode == 1) = true:=beq_iff_eq.2 hm
     clear hm
     rcases hpk with rfl|⟨rfl,hmn⟩
     all_goals (go_wp2_with (first|(go_at_call 46;(with_reducible refine (impl_formOf.calls mode q1 q2 _ H2.out).mono ?_);rintro e w2 ⟨rfl,⟨nd,rfl⟩⟩;have HS2:=zm0_ (HS1.out.drewN nd);(try clear hc1 hc2 hc3 hc4);obtain ⟨hc1,hc2,hc3,hc4⟩:=HS2.out.cells)|(go_at_call 45;(with_reducible refine (impl_putPrefix.calls k (fun k_ => some k_ = bv.ownBlock) bv lb q1 q2 i b1 w0 _ ?sB ?sR H3.out).mono ?_);(case sB => exact HS2.out.1);(case sR => exact HS2.out.tight);rintro e w3 ⟨v3,rfl,hR,hB3,hK⟩;have HS3:=zm0_ (HS2.out.bytes hR hB3 hK);clear hR hB3 hK;(try clear hc1 hc2 hc3 hc4);obtain ⟨hc1,hc2,hc3,hc4⟩:=HS3.out.cells)|(go_at_call 47;(with_reducible refine (impl_putString.calls k (fun k_ => some k_ = v3.ownBlock) v3 b1 v b3 w0 _ ?sB ?sR ?sT H5.out).mono ?_);(case sB => exact HS3.out.1);(case sR => exact HS3.out.tight);(case sT => exact tb_below HT.out HS3.out.1);rintro e w5 ⟨v5,rfl,hR,hB3,hK⟩;have HS5:=zm0_ (HS3.out.bytes hR hB3 hK);clear hR hB3 hK;(try clear hc1 hc2 hc3 hc4);obtain ⟨hc1,hc2,hc3,hc4⟩:=HS5.out.cells)|(go_at_call 48;(with_reducible refine (impl_Table_put.add g m A c l (⟨n,v⟩ : S36) w0 _ (fun k => own k ∨ W.heap.size ≤ k) ?s1 HGB.out ?s2 ?s3 HL.out).mono ?_);(case s1 => exact HS5.out.1);(case s2 => exact HS5.out.2.2.1);(case s3 => exact HS5.out.2.2.2.2.1);rintro e w6 hp;obtain ⟨rfl,hF⟩:=HS5.out.finAdd hp;have HF:=zm0_ hF;clear hp hF));go_ret;exact ⟨_,rfl,HF.out⟩)
    ·
     rw [if_neg hm] at hq
     subst hq
     have hmb : (mode == 1) = false:=beq_eq_false_iff_ne.2 hm
     clear hm
     rcases hpk with rfl|⟨rfl,hmn⟩
     all_goals (go_wp2_with (first|(go_at_call 46;(with_reducible refine (impl_formOf.calls mode q1 q2 _ H2.out).mono ?_);rintro e w2 ⟨rfl,⟨nd,rfl⟩⟩;have HS2:=zm0_ (HS1.out.drewN nd);(try clear hc1 hc2 hc3 hc4);obtain ⟨hc1,hc2,hc3,hc4⟩:=HS2.out.cells)|(go_at_call 45;(with_reducible refine (impl_putPrefix.calls k (fun k_ => some k_ = bv.ownBlock) bv lb q1 q2 i b1 w0 _ ?sB ?sR H3.out).mono ?_);(case sB => exact HS2.out.1);(case sR => exact HS2.out.tight);rintro e w3 ⟨v3,rfl,hR,hB3,hK⟩;have HS3:=zm0_ (HS2.out.bytes hR hB3 hK);clear hR hB3 hK;(try clear hc1 hc2 hc3 hc4);obtain ⟨hc1,hc2,hc3,hc4⟩:=HS3.out.cells)|(go_at_call 47;(with_reducible refine (impl_putString.calls k (fun k_ => some k_ = v3.ownBlock) v3 b1 v b3 w0 _ ?sB ?sR ?sT H5.out).mono ?_);(case sB => exact HS3.out.1);(case sR => exact HS3.out.tight);(case sT => exact tb_below HT.out HS3.out.1);rintro e w5 ⟨v5,rfl,hR,hB3,hK⟩;have HS5:=zm0_ (HS3.out.bytes hR hB3 hK);clear hR hB3 hK;(try clear hc1 hc2 hc3 hc4);obtain ⟨hc1,hc2,hc3,hc4⟩:=HS5.out.cells));go_ret;exact ⟨_,rfl,HS5.out.fin⟩)
 ·
  rw [if_neg hl] at h
  cases h
end Go.Proofs.YthflimnpiglgbaaGreatDoor.A
end
section
namespace Go.Proofs.YthflimnpiglgbaaGreatDoor.A
open Go.RowKit Go.Proofs.YthflimnpiglgbaaGreatDoorW.PrintWords Go.Proofs.YthflimnpiglgbaaGreatDoorW.PrintLast Go.Proofs.YthflimnpiglgbaaGreatDoorW.PrintMore
attribute [local go_sem] max2_int min2_int max_two min_two max_three min_three max_four min_four   -- for this text's walks alone
set_option linter.unusedVariables false
set_option linter.unusedSimpArgs false

def impl_PutFields.l0 : Nat → Nat → Int → List (S36) → List (S36) → List Int → Int → Option (List Int × List (S36))
 | 0,_,_,_,_,_,_ => none
 | q + 1,k,m,l1,tl,bl,x => if x < (l1.length : Int) then (if 0 ≤ x then ((impl_Table_put.f k m tl bl (rd_T36 l1 x).f0 (rd_T36 l1 x).f1 (if (rd_T36 l1 x).f0.toList = ([97,117,116,104,111,114,105,122,97,116,105,111,110] : List UInt8) then 3 else 1)).bind fun r => impl_PutFields.l0 q k m l1 r.2 r.1 (wrap64 (x + 1))) else none) else some (bl,tl)
def impl_PutFields.f (k : Nat) (a0_0 : Int) (l0_1 : List (S36)) (l1 : List (S36)) : Option (List Int × Int × (List (S36))):=if l0_1.length + 1 < 4398046511104 then ((impl_TableOk.f k a0_0 l0_1).bind fun d => (if d = true then ((impl_PutFields.l0 k k a0_0 l1 l0_1 [] 0).bind fun r => some (r.1,a0_0,r.2)) else (some ([],a0_0,l0_1)))) else none
theorem impl_PutFields.mono_l : ∀ q k m l1 tl bl x,LeO (impl_PutFields.l0 q k m l1 tl bl x) (impl_PutFields.l0 (q + 1) (k + 1) m l1 tl bl x)
 | 0,_,_,_,_,_,_ => fun r h => by simp [impl_PutFields.l0] at h
 | q + 1,k,m,l1,tl,bl,x => by
  unfold impl_PutFields.l0
  exact LeO.ite (LeO.ite (LeO.bind (impl_Table_put.mono _ _ _ _ _ _ _) (fun _ => impl_PutFields.mono_l q k m l1 _ _ _)) (LeO.none _)) (LeO.refl _)
theorem impl_PutFields.mono : ∀ a0 a1 a2 k,LeO (impl_PutFields.f k a0 a1 a2) (impl_PutFields.f (k + 1) a0 a1 a2):=by
 intro a0 a1 a2 k
 unfold impl_PutFields.f
 exact LeO.ite (LeO.bind (impl_TableOk.mono _ _ _) (fun _ => LeO.ite (LeO.bind (impl_PutFields.mono_l _ _ _ _ _ _ _) (fun _ => LeO.refl _)) (LeO.refl _))) (LeO.none _)
set_option maxHeartbeats 8000000 in
set_option maxRecDepth 100000 in
theorem impl_PutFields.calls (k : Nat) (a0_0 : Int) (A0_1 : Option Addr) (c0_1 : Nat) (l0_1 : List (S36)) (A1 : Option Addr) (c1 : Nat) (l1 : List (S36)) (r1 : List Int) (r2 : Int) (r3 : List (S36)) (w : World) (hr0_1 : Kd.C k36 w A0_1 l0_1.length l0_1) (hc0_1 : l0_1.length ≤ c0_1) (hr1 : Kd.C k36 w A1 l1.length l1) (hc1 : l1.length ≤ c1) (ht : TB w) (h : impl_PutFields.f k a0_0 l0_1 l1 = some (r1,r2,r3)) :
 Calls Tryz.prog 20 #[.agg #[.int .i64 a0_0,.slice A0_1 l0_1.length c0_1],.slice A1 l1.length c1] w fun e w' => ∃ v0_ v2_ : Value,e = .returned (.tuple #[v0_,.agg #[.int .i64 r2,v2_]]) ∧ Kd.R (Kd.int .u8) 5 w' w.heap.size (fun _ => True) v0_ r1 ∧ Kd.R k36 36 w' w.heap.size (fun _ => True) v2_ r3 ∧ Below w.heap.size w w':=by
 have hu32:=Tryz.underlying32
 have hu36:=Tryz.underlying36
 have HR0_1:=zm0_ hr0_1
 have HC0_1:=zm0_ hc0_1
 have HR1:=zm0_ hr1
 have HTB:=zm0_ ht
 clear hr0_1 hc0_1 hr1 hc1 ht
 unfold impl_PutFields.f at h
 by_cases hl : l0_1.length + 1 < 4398046511104
 ·
  rw [if_pos hl] at h
  have hcp : impl_copyTable.f a0_0 l0_1 = some (a0_0,l0_1):=by
   unfold impl_copyTable.f impl_Field_42.f
   rw [Option.bind_some,if_pos (by rw [List.length_nil];omega),List.nil_append,Option.bind_some]
  have HCP:=zm0_ hcp
  clear hcp hl
  obtain ⟨d,hc2,h⟩:=zq1_ h
  have HTK:=zm0_ hc2
  clear hc2
  cases d with
  | false =>
   rw [if_neg Bool.false_ne_true] at h
   simp only [Option.some.injEq,Prod.mk.injEq] at h
   obtain ⟨rfl,rfl,rfl⟩:=h
   go_enter Tryz.func20,Tryz.ntmps20
   go_wp2_with (first|((with_reducible refine gate_dst (N:=2) rfl ?_);refine box_event ?hg (N:=2) ?hd (cs:=#[.int .i64 a0_0,.slice A0_1 l0_1.length c0_1]) (t:=32) ?hr ?_;(case hd => rfl);(case hg => rfl);(case hr => first|(go_simp;done)|(go_simp;rfl));intro g2 hg w2 hbox hb;have BKw2:=zm0_ hbox;have GE2:=zm0_ ((by rw [hg];exact Nat.le_refl _) : w.heap.size ≤ g2);have HBw2:=zm0_ hb;clear hg hb hbox)|((with_reducible refine gate_dst (N:=5) rfl ?_);refine box_event ?hg (N:=5) ?hd (cs:=#[.int .i64 0,.slice none 0 0]) (t:=32) ?hr ?_;(case hd => rfl);(case hg => rfl);(case hr => first|(go_simp;done)|(go_simp;rfl));intro g4 hg w4 hbox hb;have BKw4:=zm0_ hbox;have GE4:=zm0_ ((by rw [hg];exact zn9_ HBw2.out) : w.heap.size ≤ g4);have N24:=zm0_ ((by rw [hg];exact Nat.ne_of_lt (zo3_ BKw2.out)) : g2 ≠ g4);have B2w4:=zm0_ (zm5_ BKw2.out hb);have HBw4:=zm0_ (zn8_ HBw2.out hb);have hcz2_0 : w4.cell? ⟨g2,0,none⟩ = some (.int .i64 a0_0):=(zm6_ B2w4.out 0).trans rfl;have hcz2_1 : w4.cell? ⟨g2,1,none⟩ = some (.slice A0_1 l0_1.length c0_1):=(zm6_ B2w4.out 1).trans rfl;clear hg hb hbox)|((with_reducible refine gate_callee (f:=31) rfl ?_);refine goesL_ (some 12) rfl rfl Tryz.func31 (by kernel_rfl) rfl #[.agg #[.int .i64 a0_0,.slice A0_1 l0_1.length c0_1]] rfl (by (try simp only [zp1_,zp2_,zp3_]);first|done|rfl) ?_;(with_reducible refine (impl_copyTable.calls a0_0 _ _ l0_1 a0_0 l0_1 _ ?side1 ?side2 HCP.out).mono ?_);(case side1 => exact (Kd.C_below HR0_1.out HBw4.out));(case side2 => exact HC0_1.out);rintro e w7 ⟨v7,rfl,ho,hb⟩;obtain ⟨A7,c7,ev⟩:=Kd.R_slice ho;subst ev;refine ⟨_,rfl,?_⟩;have HO7:=zm0_ (zo1_ ho (zn9_ HBw4.out));have B2w7:=zm0_ (zm5_ B2w4.out hb);have B4w7:=zm0_ (zm5_ BKw4.out hb);have HBw7:=zm0_ (zn8_ HBw4.out hb);clear hb ho)|((with_reducible refine gate_dst (N:=6) rfl ?_);refine box_event ?hg (N:=6) ?hd (cs:=#[.int .i64 0,.slice none 0 0]) (t:=32) ?hr ?_;(case hd => rfl);(case hg => rfl);(case hr => first|(go_simp;done)|(go_simp;rfl));intro g5 hg w8 hbox hb;have BKw8:=zm0_ hbox;have HO8:=zm0_ (zm8_ HO7.out hb);have B2w8:=zm0_ (zm5_ B2w7.out hb);have B4w8:=zm0_ (zm5_ B4w7.out hb);have GE5:=zm0_ ((by rw [hg];exact zn9_ HBw7.out) : w.heap.size ≤ g5);have N25:=zm0_ ((by rw [hg];exact Nat.ne_of_lt (zo3_ B2w7.out)) : g2 ≠ g5);have N45:=zm0_ ((by rw [hg];exact Nat.ne_of_lt (zo3_ B4w7.out)) : g4 ≠ g5);have HBw8:=zm0_ (zn8_ HBw7.out hb);have hcz2d_0 : w8.cell? ⟨g2,0,none⟩ = some (.int .i64 a0_0):=(zm6_ B2w8.out 0).trans rfl;have hcz2d_1 : w8.cell? ⟨g2,1,none⟩ = some (.slice A0_1 l0_1.length c0_1):=(zm6_ B2w8.out 1).trans rfl;have hfz2d_0:=zm7_ B2w8.out 0;have hfz2d_1:=zm7_ B2w8.out 1;have hcz5d_0 : w8.cell? ⟨g5,0,none⟩ = some (.int .i64 0):=(zm6_ BKw8.out 0).trans rfl;have hcz5d_1 : w8.cell? ⟨g5,1,none⟩ = some (.slice none 0 0):=(zm6_ BKw8.out 1).trans rfl;have hfz5d_0:=zm7_ BKw8.out 0;have hfz5d_1:=zm7_ BKw8.out 1;have hnb25:=N25.out;have hnb52:=N25.out.symm;clear hg hb hbox)|(go_at_call 33;(with_reducible refine (impl_TableOk.calls k a0_0 _ _ l0_1 false _ ?side1 ?side2 HTK.out).mono ?_);(case side1 => exact (Kd.C_below HR0_1.out (zl1 HBw8 GE5)));(case side2 => exact HC0_1.out);rintro e w10 ⟨rfl,hb⟩;have HO10 : Aside0 (Kd.R k36 36 w10 w.heap.size (fun _ => True) (.slice A7 l0_1.length c7) l0_1):=⟨zm8_ (zo2_ (ok:=fun k_ => True ∧ k_ ≠ g5) (by (with_reducible repeat (first|apply k2_|apply k3_|apply k1_|refine k4_ (p:=⟨g5,1,none⟩) ?_ (fun _ hk => hk.2) _|refine k4_ (p:=⟨g5,0,none⟩) ?_ (fun _ hk => hk.2) _));exact Kd.R_types (zo2_ HO8.out (fun _ _ => trivial)) BKw8.out (by decide)) (fun _ _ => trivial)) hb⟩;have B4x:=zm0_ (zm5_ (g:=g4) (o:=.cells #[.int .i64 0,.slice none 0 0] 32 (0,0)) (by (with_reducible repeat (first|refine k6_ ?_ _|refine k7_ ?_|refine k5_ ?_ _|refine blk_far ?_ N45.out _));exact B4w8.out) hb);have B5x:=zm0_ (zm5_ (g:=g5) (o:=.cells #[.int .i64 a0_0,.slice A7 l0_1.length c7] 32 (0,0)) (by (with_reducible repeat (first|refine k6_ ?_ _|refine k7_ ?_|refine k5_ ?_ _));refine blk_put (cs:=#[.int .i64 a0_0,.slice none 0 0]) ?_ 1 _ rfl;(with_reducible repeat (first|refine k6_ ?_ _|refine k7_ ?_|refine k5_ ?_ _));refine blk_put (cs:=#[.int .i64 0,.slice none 0 0]) ?_ 0 _ rfl;(with_reducible repeat (first|refine k6_ ?_ _|refine k7_ ?_|refine k5_ ?_ _));exact BKw8.out) hb);have HBw10:=zm0_ (zn8_ (zl1 HBw8 GE5) hb);clear hb))
   have B4z:=zm0_ (k7_ B4x.out)
   have B5z:=zm0_ (k7_ B5x.out)
   have HOz:=zm0_ (k3_ HO10.out)
   have HYz:=zm0_ (k3_ (Kd.R_nil (Kd.int .u8) 5 w10 w.heap.size (fun _ => True)))
   have HBz:=zm0_ (zm4_ HBw10.out)
   refine start_ (n:=3) (S:=fun w' => w'.cell? ⟨g5,0,none⟩ = some (.int .i64 a0_0) ∧ w'.cell? ⟨g5,1,none⟩ = some (.slice A7 l0_1.length c7)) (ds:=[2]) #[Z,Z,Z] (by kernel_rfl) rfl rfl ⟨(zm6_ B5z.out 0).trans rfl,(zm6_ B5z.out 1).trans rfl⟩ (fun hHeld => ?_)
   generalize hwd : w10.drew = w14 at B4z B5z HOz HYz HBz hHeld ⊢
   clear hwd
   refine take_ (i:=0) (N:=some 16) (v:=?_) (a':=?_) #[Y,Z,Z] rfl rfl (by kernel_rfl) (fun _ _ _ h => h) (Or.inl ⟨by rfl,?_⟩) hHeld ?_ ?_
   rotate_left
   ·
    rintro w' ⟨s0,s1⟩
    go_simp
    with_reducible rfl
   rotate_left
   ·
    simp only [Act.put,lA_,lB_,lC_,i64_w,i32_w]
    rfl
   refine pure_ (i:=1) (N:=some 4) (v:=?_) (a':=?_) #[Y,Y,Z] rfl rfl (by kernel_rfl) (fun _ _ _ h => h) (Or.inl ⟨by rfl,?_⟩) ?_ ?_
   rotate_left
   ·
    intro w'
    go_simp
    with_reducible rfl
   rotate_left
   ·
    simp only [Act.put,lA_,lB_,lC_,i64_w,i32_w]
    rfl
   refine last_ (i:=2) (N:=none) #[Y,Y,Y] rfl rfl (by kernel_rfl) (by decide) (fun K hK => ?_)
   have hcz4_0 : w14.cell? ⟨g4,0,none⟩ = some (.int .i64 0):=(zm6_ B4z.out 0).trans rfl
   have hcz4_1 : w14.cell? ⟨g4,1,none⟩ = some (.slice none 0 0):=(zm6_ B4z.out 1).trans rfl
   have hfz4_0:=zm7_ B4z.out 0
   have hfz4_1:=zm7_ B4z.out 1
   refine skip_ (w1:=?_) (by rfl) rfl ?_ ?_
   rotate_left
   ·
    go_simp
    rfl
   refine hK.out _ _ ?_
   clear hK K
   refine done_ (by kernel_rfl) ?_
   try go_wp2
   refine bodyPost_ret (results_tc rfl _ _ g4 32 #[.int .i64 a0_0,.slice A7 l0_1.length c7] (0,0) _ rfl (by (with_reducible repeat (first|refine k6_ ?_ _|refine k7_ ?_|refine k5_ ?_ _));refine blk_put (cs:=#[.int .i64 a0_0,.slice none 0 0]) ?_ 1 _ rfl;(with_reducible repeat (first|refine k6_ ?_ _|refine k7_ ?_|refine k5_ ?_ _));refine blk_put (cs:=#[.int .i64 0,.slice none 0 0]) ?_ 0 _ rfl;(with_reducible repeat (first|refine k6_ ?_ _|refine k7_ ?_|refine k5_ ?_ _));exact B4z.out) Tryz.underlying32 rfl (by kernel_rfl)) rfl ?_
   exact ⟨_,_,rfl,zo2_ (k4_ (p:=⟨g4,1,none⟩) (k4_ (p:=⟨g4,0,none⟩) (Kd.R_types HYz.out B4z.out (by decide)) (fun _ hk => hk.2) (.int .i64 a0_0)) (fun _ hk => hk.2) (.slice A7 l0_1.length c7)) (fun _ _ => trivial),zo2_ (k4_ (p:=⟨g4,1,none⟩) (k4_ (p:=⟨g4,0,none⟩) (Kd.R_types HOz.out B4z.out (by decide)) (fun _ hk => hk.2) (.int .i64 a0_0)) (fun _ hk => hk.2) (.slice A7 l0_1.length c7)) (fun _ _ => trivial),zm1_ (zm1_ HBz.out GE4.out) GE4.out⟩
  | true =>
   rw [if_pos rfl] at h
   obtain ⟨⟨q1,q2⟩,hc3,h⟩:=zq1_ h
   simp only [Option.some.injEq,Prod.mk.injEq] at h
   obtain ⟨rfl,rfl,rfl⟩:=h
   have HL:=zm0_ hc3
   clear hc3
   go_enter Tryz.func20,Tryz.ntmps20
   go_wp2_with (first|((with_reducible refine gate_dst (N:=2) rfl ?_);refine box_event ?hg (N:=2) ?hd (cs:=#[.int .i64 a0_0,.slice A0_1 l0_1.length c0_1]) (t:=32) ?hr ?_;(case hd => rfl);(case hg => rfl);(case hr => first|(go_simp;done)|(go_simp;rfl));intro g2 hg w2 hbox hb;have BKw2:=zm0_ hbox;have GE2:=zm0_ ((by rw [hg];exact Nat.le_refl _) : w.heap.size ≤ g2);have HBw2:=zm0_ hb;clear hg hb hbox)|((with_reducible refine gate_dst (N:=5) rfl ?_);refine box_event ?hg (N:=5) ?hd (cs:=#[.int .i64 0,.slice none 0 0]) (t:=32) ?hr ?_;(case hd => rfl);(case hg => rfl);(case hr => first|(go_simp;done)|(go_simp;rfl));intro g4 hg w4 hbox hb;have BKw4:=zm0_ hbox;have GE4:=zm0_ ((by rw [hg];exact zn9_ HBw2.out) : w.heap.size ≤ g4);have N24:=zm0_ ((by rw [hg];exact Nat.ne_of_lt (zo3_ BKw2.out)) : g2 ≠ g4);have B2w4:=zm0_ (zm5_ BKw2.out hb);have HBw4:=zm0_ (zn8_ HBw2.out hb);have hcz2_0 : w4.cell? ⟨g2,0,none⟩ = some (.int .i64 a0_0):=(zm6_ B2w4.out 0).trans rfl;have hcz2_1 : w4.cell? ⟨g2,1,none⟩ = some (.slice A0_1 l0_1.length c0_1):=(zm6_ B2w4.out 1).trans rfl;clear hg hb hbox)|((with_reducible refine gate_callee (f:=31) rfl ?_);refine goesL_ (some 12) rfl rfl Tryz.func31 (by kernel_rfl) rfl #[.agg #[.int .i64 a0_0,.slice A0_1 l0_1.length c0_1]] rfl (by (try simp only [zp1_,zp2_,zp3_]);first|done|rfl) ?_;(with_reducible refine (impl_copyTable.calls a0_0 _ _ l0_1 a0_0 l0_1 _ ?side1 ?side2 HCP.out).mono ?_);(case side1 => exact (Kd.C_below HR0_1.out HBw4.out));(case side2 => exact HC0_1.out);rintro e w7 ⟨v7,rfl,ho,hb⟩;obtain ⟨A7,c7,ev⟩:=Kd.R_slice ho;subst ev;refine ⟨_,rfl,?_⟩;have HO7:=zm0_ (zo1_ ho (zn9_ HBw4.out));have B2w7:=zm0_ (zm5_ B2w4.out hb);have B4w7:=zm0_ (zm5_ BKw4.out hb);have HBw7:=zm0_ (zn8_ HBw4.out hb);clear hb ho)|((with_reducible refine gate_dst (N:=6) rfl ?_);refine box_event ?hg (N:=6) ?hd (cs:=#[.int .i64 0,.slice none 0 0]) (t:=32) ?hr ?_;(case hd => rfl);(case hg => rfl);(case hr => first|(go_simp;done)|(go_simp;rfl));intro g5 hg w8 hbox hb;have BKw8:=zm0_ hbox;have HO8:=zm0_ (zm8_ HO7.out hb);have B2w8:=zm0_ (zm5_ B2w7.out hb);have B4w8:=zm0_ (zm5_ B4w7.out hb);have GE5:=zm0_ ((by rw [hg];exact zn9_ HBw7.out) : w.heap.size ≤ g5);have N25:=zm0_ ((by rw [hg];exact Nat.ne_of_lt (zo3_ B2w7.out)) : g2 ≠ g5);have N45:=zm0_ ((by rw [hg];exact Nat.ne_of_lt (zo3_ B4w7.out)) : g4 ≠ g5);have HBw8:=zm0_ (zn8_ HBw7.out hb);have hcz2d_0 : w8.cell? ⟨g2,0,none⟩ = some (.int .i64 a0_0):=(zm6_ B2w8.out 0).trans rfl;have hcz2d_1 : w8.cell? ⟨g2,1,none⟩ = some (.slice A0_1 l0_1.length c0_1):=(zm6_ B2w8.out 1).trans rfl;have hfz2d_0:=zm7_ B2w8.out 0;have hfz2d_1:=zm7_ B2w8.out 1;have hcz5d_0 : w8.cell? ⟨g5,0,none⟩ = some (.int .i64 0):=(zm6_ BKw8.out 0).trans rfl;have hcz5d_1 : w8.cell? ⟨g5,1,none⟩ = some (.slice none 0 0):=(zm6_ BKw8.out 1).trans rfl;have hfz5d_0:=zm7_ BKw8.out 0;have hfz5d_1:=zm7_ BKw8.out 1;have hnb25:=N25.out;have hnb52:=N25.out.symm;clear hg hb hbox)|(go_at_call 33;(with_reducible refine (impl_TableOk.calls k a0_0 _ _ l0_1 true _ ?side1 ?side2 HTK.out).mono ?_);(case side1 => exact (Kd.C_below HR0_1.out (zl1 HBw8 GE5)));(case side2 => exact HC0_1.out);rintro e w10 ⟨rfl,hb⟩;have HO10 : Aside0 (Kd.R k36 36 w10 w.heap.size (fun _ => True) (.slice A7 l0_1.length c7) l0_1):=⟨zm8_ (zo2_ (ok:=fun k_ => True ∧ k_ ≠ g5) (by (with_reducible repeat (first|apply k2_|apply k3_|apply k1_|refine k4_ (p:=⟨g5,1,none⟩) ?_ (fun _ hk => hk.2) _|refine k4_ (p:=⟨g5,0,none⟩) ?_ (fun _ hk => hk.2) _));exact Kd.R_types (zo2_ HO8.out (fun _ _ => trivial)) BKw8.out (by decide)) (fun _ _ => trivial)) hb⟩;have B4x:=zm0_ (zm5_ (g:=g4) (o:=.cells #[.int .i64 0,.slice none 0 0] 32 (0,0)) (by (with_reducible repeat (first|refine k6_ ?_ _|refine k7_ ?_|refine k5_ ?_ _|refine blk_far ?_ N45.out _));exact B4w8.out) hb);have B5x:=zm0_ (zm5_ (g:=g5) (o:=.cells #[.int .i64 a0_0,.slice A7 l0_1.length c7] 32 (0,0)) (by (with_reducible repeat (first|refine k6_ ?_ _|refine k7_ ?_|refine k5_ ?_ _));refine blk_put (cs:=#[.int .i64 a0_0,.slice none 0 0]) ?_ 1 _ rfl;(with_reducible repeat (first|refine k6_ ?_ _|refine k7_ ?_|refine k5_ ?_ _));refine blk_put (cs:=#[.int .i64 0,.slice none 0 0]) ?_ 0 _ rfl;(with_reducible repeat (first|refine k6_ ?_ _|refine k7_ ?_|refine k5_ ?_ _));exact BKw8.out) hb);have HBw10:=zm0_ (zn8_ (zl1 HBw8 GE5) hb);clear hb))
   go_loopg [7,19] k (fun kq v7 v19 w' => ∃ (A : Option Addr) (c : Nat) (tl : List (S36)) (bl : List Int) (x : Int),v19 = .int .i64 x ∧ Aside0 (impl_PutFields.l0 kq k a0_0 l1 tl bl x = some (q1,q2)) ∧ Aside0 (kq ≤ k) ∧ Aside0 (w'.heap[g4]? = some (.cells #[.int .i64 0,.slice none 0 0] 32 (0,0))) ∧ Aside0 (w'.heap[g5]? = some (.cells #[.int .i64 a0_0,.slice A tl.length c] 32 (0,0))) ∧ Aside0 (Kd.R k36 36 w' w.heap.size (fun _ => True) (.slice A tl.length c) tl) ∧ Aside0 (Kd.R (Kd.int .u8) 5 w' w.heap.size (fun _ => True) v7 bl) ∧ Aside0 (Below w.heap.size w w'))
   case atStart => exact ⟨A7,c7,l0_1,[],0,(by first|rfl|(simp;done)),HL,⟨Nat.le_refl _⟩,B4x,B5x,HO10,⟨Kd.R_nil _ _ _ _ _⟩,HBw10⟩
   case round =>
    clear HL B4x B5x HO10 HBw10
    obtain ⟨A,c,tl,bl,x,rfl,HA,HK1,B4,B5,HO,HY,HB⟩:=hrel
    cases gk with
    | zero => exact absurd HA.out (by simp [impl_PutFields.l0])
    | succ q =>
    have H:=HA.out
    clear HA
    simp only [impl_PutFields.l0] at H
    by_cases c4 : x < (l1.length : Int)
    ·
     rw [if_pos c4] at H
     by_cases c5 : 0 ≤ x
     ·
      rw [if_pos c5] at H
      obtain ⟨⟨p1,p2⟩,hp,H⟩:=zq1_ H
      have c4b0 : decide (x < (l1.length : Int)) = true:=decide_eq_true c4
      have c5b0 : decide (0 ≤ x) = true:=decide_eq_true c5
      obtain ⟨ad,e_,hx0,hx1⟩:=at_T36 HR1.out x c5 c4
      cases e_
      replace hx0:=(HB.out.cell (zq2_ w _ hx0)).trans hx0
      replace hx1:=(HB.out.cell (zq2_ w _ hx1)).trans hx1
      replace c4:=eq_true c4
      replace c5:=eq_true c5
      have HH:=zm0_ H
      clear H
      have NO4:=zm0_ (Kd.R_ne HO.out B4.out (by decide))
      have NY4:=zm0_ (Kd.R_ne HY.out B4.out (by decide))
      by_cases ca : (rd_T36 l1 x).f0.toList = ([97,117,116,104,111,114,105,122,97,116,105,111,110] : List UInt8)
      ·
       rw [if_pos ca] at hp
       have HPU:=zm0_ hp
       clear hp
       have cb0 : ((rd_T36 l1 x).f0.toList == ([97,117,116,104,111,114,105,122,97,116,105,111,110] : List UInt8)) = true:=beq_iff_eq.2 ca
       clear ca
       go_wp2_with (first|((with_reducible refine gate_dst (N:=9) rfl ?_);refine box_event ?hg (N:=9) ?hd (cs:=#[.string (⟨#[]⟩ : ByteArray),.string (⟨#[]⟩ : ByteArray)]) (t:=36) ?hr ?_;(case hd => rfl);(case hg => rfl);(case hr => first|(go_simp;done)|(go_simp;rfl));intro gb hg w8 hbox hb;have BKb:=zm0_ hbox;have HO8:=zm0_ (zm8_ (zo2_ (ok':=fun k_ => k_ ≠ gb) (Kd.R_bound HO.out) (fun k hk => by rw [hg];exact Nat.ne_of_lt hk.2.2.1)) hb);have HY8:=zm0_ (zm8_ (zo2_ (ok':=fun k_ => k_ ≠ gb) (Kd.R_bound HY.out) (fun k hk => by rw [hg];exact Nat.ne_of_lt hk.2.2.1)) hb);have B4w8:=zm0_ (zm5_ B4.out hb);have B5w8:=zm0_ (zm5_ B5.out hb);have GEb:=zm0_ ((by rw [hg];exact zn9_ HB.out) : w.heap.size ≤ gb);have N4b:=zm0_ ((by rw [hg];exact Nat.ne_of_lt (zo3_ B4.out)) : g4 ≠ gb);have N5b:=zm0_ ((by rw [hg];exact Nat.ne_of_lt (zo3_ B5.out)) : g5 ≠ gb);have HBw8:=zm0_ (zn8_ HB.out hb);clear hg hb hbox;have hczb_0 : w8.cell? ⟨gb,0,none⟩ = some (.string (⟨#[]⟩ : ByteArray)):=(zm6_ BKb.out 0).trans rfl;have hczb_1 : w8.cell? ⟨gb,1,none⟩ = some (.string (⟨#[]⟩ : ByteArray)):=(zm6_ BKb.out 1).trans rfl;have hfzb_0:=zm7_ BKb.out 0;have hfzb_1:=zm7_ BKb.out 1)|(go_at_call 34;(with_reducible refine (impl_Table_put.calls k g5 a0_0 A c tl u7 bl (rd_T36 l1 x).f0 (rd_T36 l1 x).f1 3 p1 p2 w _ (fun k_ => k_ ≠ gb) (fun k_ => k_ ≠ gb) ?s1 GE5.out ?s3 ?s4 ?s5 HTB.out HPU.out).mono ?_);(case s1 => exact (zl1 HBw8 GEb));(case s3 => exact (by (with_reducible repeat (first|refine k6_ ?_ _|refine k7_ ?_|refine k5_ ?_ _|refine blk_far ?_ N5b.out _));exact B5w8.out));(case s4 => exact (by (with_reducible repeat (first|apply k2_|apply k3_|apply k1_|refine k4_ (p:=⟨gb,1,none⟩) ?_ (fun _ hk => hk) _|refine k4_ (p:=⟨gb,0,none⟩) ?_ (fun _ hk => hk) _));exact HO8.out));(case s5 => exact (by (with_reducible repeat (first|apply k2_|apply k3_|apply k1_|refine k4_ (p:=⟨gb,1,none⟩) ?_ (fun _ hk => hk) _|refine k4_ (p:=⟨gb,0,none⟩) ?_ (fun _ hk => hk) _));exact HY8.out));rintro e w13 ⟨v0,rfl,hF⟩;obtain ⟨⟨v13,h5,hR⟩,hY,hB,hK⟩:=hF;obtain ⟨A13,c13,ev⟩:=Kd.R_slice hR;subst ev;have HO13:=zm0_ (zo2_ (ok':=fun _ => True) hR (fun _ _ => trivial));have HY13:=zm0_ (zo2_ (ok':=fun _ => True) hY (fun _ _ => trivial));have B5f:=zm0_ h5;have B4f:=zm0_ (blk_kept (o:=.cells #[.int .i64 0,.slice none 0 0] 32 (0,0)) (by (with_reducible repeat (first|refine k6_ ?_ _|refine k7_ ?_|refine k5_ ?_ _|refine blk_far ?_ N4b.out _));exact B4w8.out) hK (fun hq => hq.elim N45.out (fun hq => hq.elim NO4.out NY4.out)));have HBw13:=zm0_ hB;clear h5 hR hY hB hK))
       go_roundg q
       case measure => have:=HK1.out;omega
       case rel => exact ⟨A13,c13,p2,p1,wrap64 (x + 1),zz,HH,⟨by have:=HK1.out;omega⟩,B4f,B5f,HO13,HY13,HBw13⟩
      ·
       rw [if_neg ca] at hp
       have HPU:=zm0_ hp
       clear hp
       have cb0 : ((rd_T36 l1 x).f0.toList == ([97,117,116,104,111,114,105,122,97,116,105,111,110] : List UInt8)) = false:=beq_eq_false_iff_ne.2 ca
       clear ca
       go_wp2_with (first|((with_reducible refine gate_dst (N:=9) rfl ?_);refine box_event ?hg (N:=9) ?hd (cs:=#[.string (⟨#[]⟩ : ByteArray),.string (⟨#[]⟩ : ByteArray)]) (t:=36) ?hr ?_;(case hd => rfl);(case hg => rfl);(case hr => first|(go_simp;done)|(go_simp;rfl));intro gb hg w8 hbox hb;have BKb:=zm0_ hbox;have HO8:=zm0_ (zm8_ (zo2_ (ok':=fun k_ => k_ ≠ gb) (Kd.R_bound HO.out) (fun k hk => by rw [hg];exact Nat.ne_of_lt hk.2.2.1)) hb);have HY8:=zm0_ (zm8_ (zo2_ (ok':=fun k_ => k_ ≠ gb) (Kd.R_bound HY.out) (fun k hk => by rw [hg];exact Nat.ne_of_lt hk.2.2.1)) hb);have B4w8:=zm0_ (zm5_ B4.out hb);have B5w8:=zm0_ (zm5_ B5.out hb);have GEb:=zm0_ ((by rw [hg];exact zn9_ HB.out) : w.heap.size ≤ gb);have N4b:=zm0_ ((by rw [hg];exact Nat.ne_of_lt (zo3_ B4.out)) : g4 ≠ gb);have N5b:=zm0_ ((by rw [hg];exact Nat.ne_of_lt (zo3_ B5.out)) : g5 ≠ gb);have HBw8:=zm0_ (zn8_ HB.out hb);clear hg hb hbox;have hczb_0 : w8.cell? ⟨gb,0,none⟩ = some (.string (⟨#[]⟩ : ByteArray)):=(zm6_ BKb.out 0).trans rfl;have hczb_1 : w8.cell? ⟨gb,1,none⟩ = some (.string (⟨#[]⟩ : ByteArray)):=(zm6_ BKb.out 1).trans rfl;have hfzb_0:=zm7_ BKb.out 0;have hfzb_1:=zm7_ BKb.out 1)|(go_at_call 34;(with_reducible refine (impl_Table_put.calls k g5 a0_0 A c tl u7 bl (rd_T36 l1 x).f0 (rd_T36 l1 x).f1 1 p1 p2 w _ (fun k_ => k_ ≠ gb) (fun k_ => k_ ≠ gb) ?s1 GE5.out ?s3 ?s4 ?s5 HTB.out HPU.out).mono ?_);(case s1 => exact (zl1 HBw8 GEb));(case s3 => exact (by (with_reducible repeat (first|refine k6_ ?_ _|refine k7_ ?_|refine k5_ ?_ _|refine blk_far ?_ N5b.out _));exact B5w8.out));(case s4 => exact (by (with_reducible repeat (first|apply k2_|apply k3_|apply k1_|refine k4_ (p:=⟨gb,1,none⟩) ?_ (fun _ hk => hk) _|refine k4_ (p:=⟨gb,0,none⟩) ?_ (fun _ hk => hk) _));exact HO8.out));(case s5 => exact (by (with_reducible repeat (first|apply k2_|apply k3_|apply k1_|refine k4_ (p:=⟨gb,1,none⟩) ?_ (fun _ hk => hk) _|refine k4_ (p:=⟨gb,0,none⟩) ?_ (fun _ hk => hk) _));exact HY8.out));rintro e w13 ⟨v0,rfl,hF⟩;obtain ⟨⟨v13,h5,hR⟩,hY,hB,hK⟩:=hF;obtain ⟨A13,c13,ev⟩:=Kd.R_slice hR;subst ev;have HO13:=zm0_ (zo2_ (ok':=fun _ => True) hR (fun _ _ => trivial));have HY13:=zm0_ (zo2_ (ok':=fun _ => True) hY (fun _ _ => trivial));have B5f:=zm0_ h5;have B4f:=zm0_ (blk_kept (o:=.cells #[.int .i64 0,.slice none 0 0] 32 (0,0)) (by (with_reducible repeat (first|refine k6_ ?_ _|refine k7_ ?_|refine k5_ ?_ _|refine blk_far ?_ N4b.out _));exact B4w8.out) hK (fun hq => hq.elim N45.out (fun hq => hq.elim NO4.out NY4.out)));have HBw13:=zm0_ hB;clear h5 hR hY hB hK))
       go_roundg q
       case measure => have:=HK1.out;omega
       case rel => exact ⟨A13,c13,p2,p1,wrap64 (x + 1),zz,HH,⟨by have:=HK1.out;omega⟩,B4f,B5f,HO13,HY13,HBw13⟩
     ·
      rw [if_neg c5] at H
      cases H
    ·
     rw [if_neg c4] at H
     have c4b0 : decide (x < (l1.length : Int)) = false:=decide_eq_false c4
     clear c4
     simp only [Option.some.injEq,Prod.mk.injEq] at H
     obtain ⟨rfl,rfl⟩:=H
     go_wp2
     have B4z:=zm0_ (k7_ B4.out)
     have B5z:=zm0_ (k7_ B5.out)
     have HOz:=zm0_ (k3_ HO.out)
     have HYz:=zm0_ (k3_ (HY.out))
     have HBz:=zm0_ (zm4_ HB.out)
     refine start_ (n:=4) (S:=fun w' => w'.cell? ⟨g5,0,none⟩ = some (.int .i64 a0_0) ∧ w'.cell? ⟨g5,1,none⟩ = some (.slice A tl.length c)) (ds:=[3]) #[Z,Z,Z,Z] (by kernel_rfl) rfl rfl ⟨(zm6_ B5z.out 0).trans rfl,(zm6_ B5z.out 1).trans rfl⟩ (fun hHeld => ?_)
     generalize hwd : wr.drew = w14 at B4z B5z HOz HYz HBz hHeld ⊢
     clear hwd
     refine pure_ (i:=0) (N:=some 31) (v:=?_) (a':=?_) #[Y,Z,Z,Z] rfl rfl (by kernel_rfl) (fun _ _ _ h => h) (Or.inl ⟨by rfl,?_⟩) ?_ ?_
     rotate_left
     ·
      intro w'
      go_simp
      with_reducible rfl
     rotate_left
     ·
      simp only [Act.put,lA_,lB_,lC_,i64_w,i32_w]
      rfl
     refine take_ (i:=1) (N:=some 32) (v:=?_) (a':=?_) #[Y,Y,Z,Z] rfl rfl (by kernel_rfl) (fun _ _ _ h => h) (Or.inl ⟨by rfl,?_⟩) hHeld ?_ ?_
     rotate_left
     ·
      rintro w' ⟨s0,s1⟩
      go_simp
      with_reducible rfl
     rotate_left
     ·
      simp only [Act.put,lA_,lB_,lC_,i64_w,i32_w]
      rfl
     refine pure_ (i:=2) (N:=some 4) (v:=?_) (a':=?_) #[Y,Y,Y,Z] rfl rfl (by kernel_rfl) (fun _ _ _ h => h) (Or.inl ⟨by rfl,?_⟩) ?_ ?_
     rotate_left
     ·
      intro w'
      go_simp
      with_reducible rfl
     rotate_left
     ·
      simp only [Act.put,lA_,lB_,lC_,i64_w,i32_w]
      rfl
     refine last_ (i:=3) (N:=none) #[Y,Y,Y,Y] rfl rfl (by kernel_rfl) (by decide) (fun K hK => ?_)
     have hcz4_0 : w14.cell? ⟨g4,0,none⟩ = some (.int .i64 0):=(zm6_ B4z.out 0).trans rfl
     have hcz4_1 : w14.cell? ⟨g4,1,none⟩ = some (.slice none 0 0):=(zm6_ B4z.out 1).trans rfl
     have hfz4_0:=zm7_ B4z.out 0
     have hfz4_1:=zm7_ B4z.out 1
     refine skip_ (w1:=?_) (by rfl) rfl ?_ ?_
     rotate_left
     ·
      go_simp
      rfl
     refine hK.out _ _ ?_
     clear hK K
     refine done_ (by kernel_rfl) ?_
     try go_wp2
     refine bodyPost_ret (results_tc rfl _ _ g4 32 #[.int .i64 a0_0,.slice A tl.length c] (0,0) _ rfl (by (with_reducible repeat (first|refine k6_ ?_ _|refine k7_ ?_|refine k5_ ?_ _));refine blk_put (cs:=#[.int .i64 a0_0,.slice none 0 0]) ?_ 1 _ rfl;(with_reducible repeat (first|refine k6_ ?_ _|refine k7_ ?_|refine k5_ ?_ _));refine blk_put (cs:=#[.int .i64 0,.slice none 0 0]) ?_ 0 _ rfl;(with_reducible repeat (first|refine k6_ ?_ _|refine k7_ ?_|refine k5_ ?_ _));exact B4z.out) Tryz.underlying32 rfl (by kernel_rfl)) rfl ?_
     exact ⟨_,_,rfl,zo2_ (k4_ (p:=⟨g4,1,none⟩) (k4_ (p:=⟨g4,0,none⟩) (Kd.R_types HYz.out B4z.out (by decide)) (fun _ hk => hk.2) (.int .i64 a0_0)) (fun _ hk => hk.2) (.slice A tl.length c)) (fun _ _ => trivial),zo2_ (k4_ (p:=⟨g4,1,none⟩) (k4_ (p:=⟨g4,0,none⟩) (Kd.R_types HOz.out B4z.out (by decide)) (fun _ hk => hk.2) (.int .i64 a0_0)) (fun _ hk => hk.2) (.slice A tl.length c)) (fun _ _ => trivial),zm1_ (zm1_ HBz.out GE4.out) GE4.out⟩
 ·
  rw [if_neg hl] at h
  cases h
end Go.Proofs.YthflimnpiglgbaaGreatDoor.A
end
