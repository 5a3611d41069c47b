/- Written by a program of this session, out of the translation: functions as plain Lean functions, and that the machine's calls answer as they do. Condition: none beyond each theorem's own. -/
import Derived.Test.YtfcgadokmbooaaaDoorAx0
import Derived.Test.YtfcgadokmbooaaaDoorAx16
import Derived.Test.YtfcgadokmbooaaaDoorAx17
import Derived.Test.YtfcgadokmbooaaaDoorAx18
import Derived.Test.YtfcgadokmbooaaaDoorAx19
namespace Go.Proofs.YtfcgadokmbooaaaDoor.A
open Go.RowKit Go.Proofs.YtfcgadokmbooaaaDoorW.PrintWords Go.Proofs.YtfcgadokmbooaaaDoorW.PrintLast Go.Proofs.YtfcgadokmbooaaaDoorW.PrintMore
attribute [local go_sem] max2_int min2_int max_two min_two max_three min_three max_four min_four   -- for this text's walks alone
set_option linter.unusedVariables false
set_option linter.unusedSimpArgs false

/-! ### impl_AddField: function 24 (by hand: the shelf's contract) -/
/-- What is left of the room behind a field. -/
def impl_AddField.nx (room : Int) (x : S23) : Int := wrap64 (room - wrap64 ((wrap64 ((x.f0.size : Int) + (x.f1.size : Int))) + 32))
/-- As many of the first fields as there is room for. -/
def impl_AddField.tr : Nat → Int → List S23 → Nat → Option Nat
 | 0, _, _, _ => none
 | d + 1, room, l, i => if impl_AddField.nx room (l.getD i z23) < 0 then some i else impl_AddField.tr d (impl_AddField.nx room (l.getD i z23)) l (i + 1)
def impl_AddField.cut (m : Int) (l : List S23) : List S23 := match impl_AddField.tr l.length m l 0 with
 | none => l
 | some i => l.take i
theorem impl_AddField.meas (n i : Nat) (h : i < n) : n - (intOf (.int .i64 ((i + 1 : Nat) : Int))).toNat < n - (intOf (.int .i64 (i : Int))).toNat := by
 show n - (i + 1) < n - i
 omega
/-- What trim leaves: all as it was, or the row cut. -/
def impl_AddField.Post (g : Nat) (l : List S23) (w w' : World) (res : Option Nat) : Prop :=
 (res = none ∧ Below w.heap.size w w') ∨ ∃ (i : Nat) (w1 : World) (v : Value), res = some i ∧ Below w.heap.size w w1 ∧ Kd.R k23 23 w1 w.heap.size (fun _ => True) v (l.take i) ∧ w' = w1.setCell ⟨g, 1, none⟩ v
set_option maxHeartbeats 8000000 in
set_option maxRecDepth 100000 in
theorem impl_AddField.trim (g : Nat) (m : Int) (A : Option Addr) (c : Nat) (l : List S23) (w : World) (hb : w.heap[g]? = some (.cells #[.int .i64 m, .slice A l.length c] 35 (0, 0))) (hr : Kd.C k23 w A l.length l) (hc : l.length ≤ c) (hl : l.length < 4398046511104) :
  Calls Tryd.prog 55 #[.pointer (some ⟨g, 0, none⟩)] w fun e w' => e = .returned (.tuple #[]) ∧
   impl_AddField.Post g l w w' (impl_AddField.tr l.length m l 0) := by
 have hu35 := Tryd.underlying35
 have hu23 := Tryd.underlying23
 have HR := Aside0.mk hr
 have HC := Aside0.mk hc
 have HL := Aside0.mk hl
 have BK := Aside0.mk hb
 obtain ⟨res, hres⟩ : ∃ res, res = impl_AddField.tr l.length m l 0 := ⟨_, rfl⟩
 rw [← hres]
 have H' := Aside0.mk hres.symm
 have HB := Aside0.mk (Below.refl w.heap.size w)
 have hgl := blk_lt hb
 have HGL := Aside0.mk hgl
 have hcz0 : w.cell? ⟨g, 0, none⟩ = some (.int .i64 m) := (blk_cell hb 0).trans rfl
 have hcz1 : w.cell? ⟨g, 1, none⟩ = some (.slice A l.length c) := (blk_cell hb 1).trans rfl
 clear hr hc hl hb hres hgl
 go_enter Tryd.func55, Tryd.ntmps55
 go_wp2
 clear hcz0 hcz1
 go_loopw [2, 14] (fun v2 v14 wr => ∃ (room : Int) (i : Nat), v2 = .int .i64 room ∧ v14 = .int .i64 (i : Int) ∧ i ≤ l.length ∧ Aside0 (impl_AddField.tr (l.length - i) room l i = res) ∧ Aside0 (Below w.heap.size w wr)) (fun _ v14 _ => l.length - (intOf v14).toNat)
 case atStart => exact ⟨m, 0, rfl, rfl, Nat.zero_le _, H', HB⟩
 case round =>
  clear H' HB
  obtain ⟨room, i, rfl, rfl, hi, HA, HB⟩ := hrel
  by_cases hlt : i < l.length
  ·
   obtain ⟨d, hd⟩ : ∃ d, l.length - i = d + 1 := ⟨l.length - i - 1, by omega⟩
   have HD := Aside0.mk hd
   have H := HA.out
   rw [hd] at H
   simp only [impl_AddField.tr] at H
   clear HA hd hi
   obtain ⟨x, hx⟩ : ∃ x, x = l.getD i z23 := ⟨_, rfl⟩
   obtain ⟨ad, e1, hx0, hx1⟩ := at_T23 (Kd.C_below HR.out HB.out) (i : Int) (by omega) (by omega)
   have hrd : rd_T23 l (i : Int) = x := by rw [hx]; rfl
   rw [hrd, Int.toNat_natCast] at hx0 hx1
   rw [← hx] at H
   have hsz : impl_sizeOf.f x.f0 x.f1 = some (wrap64 ((wrap64 ((x.f0.size : Int) + (x.f1.size : Int))) + 32)) := rfl
   have A7 := Aside0.mk hsz
   obtain ⟨sz, hsz2⟩ : ∃ sz, sz = wrap64 ((wrap64 ((x.f0.size : Int) + (x.f1.size : Int))) + 32) := ⟨_, rfl⟩
   have hnx : impl_AddField.nx room x = wrap64 (room - sz) := by unfold impl_AddField.nx; rw [hsz2]
   rw [hnx] at H
   rw [← hsz2] at A7
   cases e1
   have hlt' : decide ((i : Int) < (l.length : Int)) = true := decide_eq_true (by omega)
   have hi0 : (0 : Int) ≤ (i : Int) := by omega
   have hi1 : (i : Int) < (l.length : Int) := by omega
   have HX := Aside0.mk hx
   clear hx hsz hsz2 hnx hrd
   by_cases hneg : wrap64 (room - sz) < 0
   ·
    rw [if_pos hneg] at H
    have hneg' : decide (wrap64 (room - sz) < 0) = true := decide_eq_true hneg
    have hi2 : some i = res := H
    obtain rfl := hi2
    clear H
    have hll : (l.take i).length = i := by rw [List.length_take]; omega
    obtain ⟨i0, hinf, _, _, _⟩ := info_parts info23
    have hcut : ∀ W : World, (Instr.slice 33 (.slice (some ad) l.length c) none (some (.int .i64 (i : Int))) none).run Tryd.prog W = .ok (.slice (some ad) i c) W := by
     intro W
     rw [cut_to 33 23 .i64 Tryd.underlying33 hinf (some ad) l.length c (i : Int) (by omega) (by omega) HC.out W, Int.toNat_natCast]
    have hF : impl_Field_53.f (l.take i) = some (l.take i) := by
     unfold impl_Field_53.f
     rw [Option.bind_some, if_pos (by rw [hll, List.length_nil]; have := HL.out; omega), List.nil_append]
    have hclone : ∀ W : World, Kd.C k23 W (some ad) l.length l → Calls Tryd.prog 53 #[.slice (some ad) i c] W fun e w' => ∃ v0_ : Value, e = .returned (v0_) ∧ Kd.R k23 23 w' W.heap.size (fun _ => True) v0_ (l.take i) ∧ Below W.heap.size W w' := by
     intro W hC
     have := impl_Field_53.calls (some ad) c (l.take i) (l.take i) W (Kd.C_take hC (Nat.le_of_lt hlt)) (by rw [hll]; have := HC.out; omega) hF
     rw [hll] at this
     exact this
    have HCL := Aside0.mk hclone
    clear hinf hll hF hclone
    go_wp2_with (first | ((with_reducible refine gate_dst (N := 4) rfl ?_); refine box_event ?hg (N := 4) ?hd (cs := #[.string (⟨#[]⟩ : ByteArray), .string (⟨#[]⟩ : ByteArray)]) (t := 23) ?hr ?_; (case hd => rfl); (case hg => rfl); (case hr => first | (go_simp; done) | (go_simp; rfl)); intro gx hg w8 hbox hb; have BKX := Aside0.mk hbox; have GEX := Aside0.mk ((by rw [hg]; exact below_size HB.out) : w.heap.size ≤ gx); have HB8 := Aside0.mk (below_step HB.out hb); clear hg hb hbox; have hcz10_0 : w8.cell? ⟨gx, 0, none⟩ = some (.string (⟨#[]⟩ : ByteArray)) := (blk_cell BKX.out 0).trans rfl; have hcz10_1 : w8.cell? ⟨gx, 1, none⟩ = some (.string (⟨#[]⟩ : ByteArray)) := (blk_cell BKX.out 1).trans rfl; have hfz10_0 := blk_frozen BKX.out 0; have hfz10_1 := blk_frozen BKX.out 1) | ((with_reducible refine gate_callee (f := 45) rfl ?_); refine goesL_ (some 21) rfl rfl Tryd.func45 (by kernel_rfl) rfl #[.agg #[.string x.f0, .string x.f1]] rfl (by (try simp only [List.map_toArray, List.map_cons, List.map_nil]); first | done | rfl) ?_; (with_reducible refine (impl_sizeOf.calls x.f0 x.f1 sz _ A7.out).mono ?_); rintro e w11 ⟨rfl, hb⟩; refine ⟨_, rfl, ?_⟩; have HB11 := Aside0.mk (below_step (by repeat (first | (with_reducible first | exact HB8.out | apply below_alloc | apply pw_below_drewN | apply below_drew1 | refine below_set ?_ GEX.out) | exact HB8.out)) hb); clear hb; have hb11g := Aside0.mk (blk_below (g := g) (o := .cells #[.int .i64 m, .slice (some ad) l.length c] 35 (0, 0)) BK.out HB11.out); have hcg1 : w11.cell? ⟨g, 1, none⟩ = some (.slice (some ad) l.length c) := (blk_cell hb11g.out 1).trans rfl) | ((with_reducible refine gate_callee (f := 53) rfl ?_); refine goesL_ (some 32) rfl rfl Tryd.func53 (by kernel_rfl) rfl #[.slice (some ad) (i : Nat) c] rfl (by (try simp only [List.map_toArray, List.map_cons, List.map_nil]); first | done | rfl) ?_; refine (HCL.out _ (Kd.C_below HR.out HB11.out)).mono ?_; rintro e w12 ⟨v12, rfl, ho, hb⟩; obtain ⟨A12, c12, ev⟩ := Kd.R_slice ho; subst ev; refine ⟨_, rfl, ?_⟩; have HO12 := Aside0.mk (Kd.R_lower ho (below_size HB11.out)); have HB12 := Aside0.mk (below_step HB11.out hb); have hb12g := Aside0.mk (blk_below hb11g.out hb); have hcg2 : w12.cell? ⟨g, 1, none⟩ = some (.slice (some ad) l.length c) := (blk_cell hb12g.out 1).trans rfl; have hfg0 := blk_frozen hb12g.out 0; have hfg1 := blk_frozen hb12g.out 1; clear hb ho))
    (try simp only [Exit.inBlock, Exit.then])
    refine bodyPost_ret (results_none rfl _ _ _) rfl ?_
    exact ⟨rfl, .inr ⟨i, w12, _, rfl, HB12.out, HO12.out, by rw [List.length_take]⟩⟩
   ·
    rw [if_neg hneg] at H
    have hneg' : decide (wrap64 (room - sz) < 0) = false := decide_eq_false hneg
    have H' := Aside0.mk H
    clear H
    go_wp2_with (first | ((with_reducible refine gate_dst (N := 4) rfl ?_); refine box_event ?hg (N := 4) ?hd (cs := #[.string (⟨#[]⟩ : ByteArray), .string (⟨#[]⟩ : ByteArray)]) (t := 23) ?hr ?_; (case hd => rfl); (case hg => rfl); (case hr => first | (go_simp; done) | (go_simp; rfl)); intro gx hg w8 hbox hb; have BKX := Aside0.mk hbox; have GEX := Aside0.mk ((by rw [hg]; exact below_size HB.out) : w.heap.size ≤ gx); have HB8 := Aside0.mk (below_step HB.out hb); clear hg hb hbox; have hcz10_0 : w8.cell? ⟨gx, 0, none⟩ = some (.string (⟨#[]⟩ : ByteArray)) := (blk_cell BKX.out 0).trans rfl; have hcz10_1 : w8.cell? ⟨gx, 1, none⟩ = some (.string (⟨#[]⟩ : ByteArray)) := (blk_cell BKX.out 1).trans rfl; have hfz10_0 := blk_frozen BKX.out 0; have hfz10_1 := blk_frozen BKX.out 1) | ((with_reducible refine gate_callee (f := 45) rfl ?_); refine goesL_ (some 21) rfl rfl Tryd.func45 (by kernel_rfl) rfl #[.agg #[.string x.f0, .string x.f1]] rfl (by (try simp only [List.map_toArray, List.map_cons, List.map_nil]); first | done | rfl) ?_; (with_reducible refine (impl_sizeOf.calls x.f0 x.f1 sz _ A7.out).mono ?_); rintro e w11 ⟨rfl, hb⟩; refine ⟨_, rfl, ?_⟩; have HB11 := Aside0.mk (below_step (by repeat (first | (with_reducible first | exact HB8.out | apply below_alloc | apply pw_below_drewN | apply below_drew1 | refine below_set ?_ GEX.out) | exact HB8.out)) hb); clear hb))
    go_roundw
    case rel =>
     have hwi : wrap64 ((i : Int) + 1) = ((i + 1 : Nat) : Int) := by have := HL.out; unfold wrap64; omega
     exact ⟨wrap64 (room - sz), i + 1, rfl, congrArg _ hwi, hlt, ⟨(by rw [show l.length - (i + 1) = d by have := HD.out; omega]; exact H'.out)⟩, HB11⟩
    case measure =>
     have hwi : wrap64 ((i : Int) + 1) = ((i + 1 : Nat) : Int) := by have := HL.out; unfold wrap64; omega
     rw [hwi]
     exact impl_AddField.meas l.length i hlt
  ·
   obtain rfl : i = l.length := by omega
   have H := HA.out
   rw [Nat.sub_self] at H
   have hn : none = res := H
   obtain rfl := hn
   clear H HA
   go_wp2
   go_end0
   exact ⟨rfl, .inl ⟨rfl, HB.out⟩⟩
/-- A copy between rows of elements of several cells: all is read before anything is written. -/
theorem impl_AddField.ins_copy {P : Program} (w : World) (dT sT ty elem : TypeId) (sz g o dLen dCap : Nat) (a : Addr) (sLen sCap : Nat) (cur : Array Value) (t : TypeId) (cs : List Value) (n : Nat)
  (hu : P.underlying dT = some (.slice elem)) (hs : (P.info? elem).map (·.size) = some sz)
  (hg : w.heap[g]? = some (.cells cur t (0, 0))) (hn : n = Nat.min sLen dLen) (hcl : cs.length = n * sz)
  (hsrc : ∀ j v, cs[j]? = some v → w.cell? (a.add j) = some v) (hfit : o + cs.length ≤ cur.size) (h1 : ∀ v ∈ cs, v.oneCell' = true) :
  (Builtin.copy_ #[dT, sT] ty #[.slice (some ⟨g, o, none⟩) dLen dCap, .slice (some a) sLen sCap]).run P w =
   .ok (goInt n) (w.setRow g (cur.toList.take o ++ cs ++ cur.toList.drop (o + cs.length)).toArray) := by
 have hl := run_loadCells_list (P := P) w a cs hsrc
 have hst := run_storeCells_at P g o t cs 0 cur w hg (by simpa using hfit) h1
 cases hq : P.info? elem with
 | none => simp [hq] at hs
 | some i =>
  have hi : i.size = sz := by simpa [hq] using hs
  rw [hcl] at hl
  simp [Builtin.copy_, run_underlying hu, Builtin.lenOf, Builtin.firstCells, sizeOf, typeInfo, hq, hi, ← hn, hl, hst]
section
variable {P : Program}
theorem impl_AddField.ins_wpcopy (w : World) {ops : Array Oper} {rest : List Oper} {o : Oper} {a : Act} {Q : Exit → Act → World → Prop} (hgd : o.guard = none) (d s : Operand) (t t' : TypeId)
  (ho : o.op = .call { callee := .builtin .copy, args := #[d, s], argTypes := #[t, t'] }) (v u : Value) (hd : a.eval d = v) (hs : a.eval s = u) {v' : Value} {w' : World}
  (hr : (Builtin.copy_ #[t, t'] o.type #[v, u]).run P w = .ok v' w') (h : wpList P ops Q rest (a.put o.dst v') w') : wpList P ops Q (o :: rest) a w :=
 wpList_plain hgd fun K hK => by
  unfold Oper.wp execOp
  simp only [ho, resolve, invoke, builtin, Sem.run_bind, Sem.run_pure, Result.andThen_ok, List.map_toArray, List.map_cons, List.map_nil, hd, hs, hr]
  exact hK _ _ h
theorem impl_AddField.ins_stepcopy {ops : Array Oper} {o : Oper} {a : Act} {w : World} {K : Act → World → Prop} {Q : Exit → Act → World → Prop} {E : Prop}
  (hg : o.guard = none) (d x : Operand) (dT sT : TypeId) (hop : o.op = Op.call { callee := Callee.builtin Builtin.copy, args := #[d, x], argTypes := #[dT, sT] })
  (v u : Value) (hd : a.eval d = v) (hx : a.eval x = u) {v' : Value} {w' : World} (hr : (Builtin.copy_ #[dT, sT] o.type #[v, u]).run P w = .ok v' w') (hK : K (a.put o.dst v') w') :
  if Region.wanted o (yielded ops a.tmps) = true then Oper.wp P o a w K Q else E := by
 have hw : Region.wanted o (yielded ops a.tmps) = true := by simp [Region.wanted, hg]
 rw [if_pos hw]
 unfold Oper.wp
 simp [execOp, hop, resolve, invoke, builtin, hd, hx, hr, Result.andThen]
 exact hK
end
set_option maxHeartbeats 8000000 in
set_option maxRecDepth 100000 in
theorem impl_AddField.ins_end (v : Value) (x : S23) (w0 W : World) (base vb : Nat) (ok : Nat → Prop) (hvb : W.heap[vb]? = some (.cells #[.string x.f0, .string x.f1] 23 (0, 0))) (hok : ∀ k, W.heap.size ≤ k → ok k) (HO : Kd.R k23 23 W base ok v []) (HB : Below base w0 W) (hbase : base ≤ W.heap.size) :
  Calls Tryd.prog 54 #[v, .int .i64 0, .slice (some ⟨vb, 0, none⟩) 1 1] W fun e w' => ∃ v' : Value, e = .returned v' ∧ Kd.R k23 23 w' base ok v' [x] ∧ Below base w0 w' ∧ W.grownBy w' v.ownBlock := by
 obtain ⟨A, c, hv⟩ := Kd.R_slice HO
 have hv0 : v = .slice A 0 c := hv
 subst hv0
 clear hv
 obtain ⟨i0, hinf, _, _, _⟩ := info_parts info23
 have hsrc : ReadsRow (fun (y : S23) cs => cs = [.string y.f0, .string y.f1]) 2 W (some ⟨vb, 0, none⟩) 1 [x] := by
  refine ⟨rfl, by omega, fun _ => ⟨_, rfl, fun j p hj => ?_⟩⟩
  obtain ⟨rfl, rfl⟩ : j = 0 ∧ p = x := by
   cases j with
   | zero => exact ⟨rfl, (Option.some.inj hj).symm⟩
   | succ j => simp at hj
  refine ⟨_, rfl, rfl, fun i u hu => ?_⟩
  have : W.cell? ⟨vb, i, none⟩ = some u := by
   rw [blk_cell hvb i]
   simpa using hu
  rw [Addr.add_lit, Nat.zero_mul, Nat.zero_add, Nat.zero_add]
  exact this
 have HO' := Aside0.mk HO
 have HB' := Aside0.mk HB
 have HV' := Aside0.mk hsrc
 have HK' := Aside0.mk hok
 have HZ := Aside0.mk hbase
 clear HO HB hvb hok hbase hsrc
 go_enter Tryd.func54, Tryd.ntmps54
 go_wp2_with (at_builtin; refine Kd.R_append_rows k23 (w0 := w0) base rfl (.tmp 23) (.tmp 24) 33 23 (.agg #[(.string ⟨#[]⟩), (.string ⟨#[]⟩)]) 32 rfl Tryd.underlying33 info23 rfl (by decide) (by omega) (.slice A 0 c) [] [x] (some ⟨vb, 0, none⟩) 1 1 ok (fun _ => False) rfl rfl HO'.out HV'.out (fun y cs h => by rw [h]; exact k23_mkM _ _ _ y) (fun _ h => h.elim) HK'.out HB'.out HZ.out (by simp) ?_; intro v1 w1 h1 h2 h3 h4; have H1 := Aside0.mk h1; have H2 := Aside0.mk h2; have H3 := Aside0.mk h3; clear h1 h2 h3 h4)
 go_ret
 exact ⟨_, rfl, H1.out, H2.out, H3.out⟩
theorem impl_AddField.ins_reps {w : World} {base : Nat} {ok : Nat → Prop} {l : List S23} {inner : List Value} (x : S23) (h : Reps (k23.M w base ok) 2 l inner) (w' : World) (base' : Nat) (ok' : Nat → Prop) : Reps (k23.M w' base' ok') 2 (x :: l) (.string x.f0 :: .string x.f1 :: inner) :=
 Reps.c2 (k23_mkM _ _ _ x) (h.imp_ (fun y cs hy => by rw [k23_openM hy]; exact k23_mkM _ _ _ y))
theorem impl_AddField.ins_one {w : World} {base : Nat} {ok : Nat → Prop} {l : List S23} {inner : List Value} (h : Reps (k23.M w base ok) 2 l inner) : ∀ v ∈ inner, v.oneCell' = true :=
 Kd.reps_one h (by decide) (fun p c hp u hu => by rw [k23_openM hp] at hu; simp only [List.mem_cons, List.not_mem_nil, or_false] at hu; rcases hu with rfl | rfl <;> rfl)
set_option maxHeartbeats 8000000 in
set_option maxRecDepth 100000 in
theorem impl_AddField.ins_grow (x : S23) (l : List S23) (n c g vb : Nat) (cur : Array Value) (inner : List Value) (W : World) (hvb : W.heap[vb]? = some (.cells #[.string x.f0, .string x.f1] 23 (0, 0))) (hg : W.heap[g]? = some (.cells cur 23 (0, 0)))
  (hn : l.length = n) (hn0 : 0 < n) (hnc : n ≤ c) (hc : c < n + 1) (hcur : cur.toList.take (n * 2) = inner) (hil : inner.length = n * 2) (h1 : ∀ v ∈ inner, v.oneCell' = true) (hbig : (n + 1) * 32 ≤ 140737488355328) :
  Calls Tryd.prog 54 #[.slice (some ⟨g, 0, none⟩) n c, .int .i64 0, .slice (some ⟨vb, 0, none⟩) 1 1] W fun e w' => ∃ (G : Nat) (Z : Array Value), e = .returned (.slice (some ⟨W.heap.size, 0, none⟩) (n + 1) G) ∧ n + 1 ≤ G ∧ G ≤ maxLen ∧ Z.size = G * 2 ∧ Z.toList.take ((n + 1) * 2) = .string x.f0 :: .string x.f1 :: inner ∧ Below W.heap.size W w' ∧ w'.heap[W.heap.size]? = some (.cells Z 23 (0, 0)) := by
 have hu33 := Tryd.underlying33
 obtain ⟨i0, hinf, hz0, hzs, hzb⟩ := info_parts info23
 have hsz : (Tryd.prog.info? 23).map (·.size) = some 2 := by rw [hinf]; simp [hzs]
 have hrz := fun ty => Lib.run_append_grow_zeros (P := Tryd.prog) W 33 3 ty 23 i0 _ .i64 .i64 Tryd.underlying33 Tryd.underlying3 hinf hz0 (some ⟨g, 0, none⟩) 0 c [] (by rw [hzs]; exact run_firstCells_some W.drew 2 0 ⟨g, 0, none⟩ 0 c [] rfl (fun j v hj => by simp at hj)) (n + 1) (by omega) (by omega) (by omega) (by omega) (by rw [hzb]; omega) (by rw [hzb]; exact growslice_fits (by omega) (by omega))
 generalize hcap : grownCap W (0 + (n + 1)) c 23 = G at hrz
 have g1 : n + 1 ≤ G := by rw [← hcap]; have := grownCap_ge W (0 + (n + 1)) c 23; omega
 have g2 : G ≤ maxLen := by rw [← hcap]; exact grownCap_le_maxLen W _ c 23 (by unfold maxLen; omega)
 generalize hZ : ([] : List Value).toArray ++ Builtin.zeroCells (Value.cells (.agg #[(.string ⟨#[]⟩), (.string ⟨#[]⟩)])) (n + 1) ++ Builtin.zeroCells (Value.cells (.agg #[(.string ⟨#[]⟩), (.string ⟨#[]⟩)])) (G - (0 + (n + 1))) = Z at hrz
 have hZs : Z.size = G * 2 := by rw [← hZ]; simp [size_zeroCells, Value.cells]; omega
 rw [Nat.zero_add] at hrz
 clear hZ hcap
 have hvlt : vb < W.heap.size := blk_lt hvb
 have hglt : g < W.heap.size := blk_lt hg
 obtain ⟨W1, hW1⟩ : ∃ W1, W1 = (W.alloc (.cells Z 23)).drew := ⟨_, rfl⟩
 have hN : W1.heap[W.heap.size]? = some (.cells Z 23 (0, 0)) := by rw [hW1]; exact heap_alloc_new W _
 have hB1 : Below W.heap.size W W1 := by rw [hW1]; exact ((Below.refl W.heap.size W).alloc (Nat.le_refl _) _).drew
 have hvb1 : W1.heap[vb]? = some (.cells #[.string x.f0, .string x.f1] 23 (0, 0)) := by rw [hB1.block vb hvlt]; exact hvb
 have hg1 : W1.heap[g]? = some (.cells cur 23 (0, 0)) := by rw [hB1.block g hglt]; exact hg
 obtain ⟨Z1, hZ1⟩ : ∃ Z1, Z1 = (Z.toList.take 0 ++ [Value.string x.f0, Value.string x.f1] ++ Z.toList.drop (0 + [Value.string x.f0, Value.string x.f1].length)).toArray := ⟨_, rfl⟩
 obtain ⟨W2, hW2⟩ : ∃ W2, W2 = W1.setRow W.heap.size Z1 := ⟨_, rfl⟩
 have hcpA : ∀ ty dc, (Builtin.copy_ #[33, 33] ty #[.slice (some ⟨W.heap.size, 0, none⟩) (n + 1) dc, .slice (some ⟨vb, 0, none⟩) 1 1]).run Tryd.prog W1 = .ok (goInt 1) W2 := fun ty dc => by
  rw [hW2, hZ1]
  exact impl_AddField.ins_copy W1 33 33 ty 23 2 W.heap.size 0 (n + 1) dc ⟨vb, 0, none⟩ 1 1 Z 23 [.string x.f0, .string x.f1] 1 Tryd.underlying33 hsz hN (by simp only [Nat.min_def]; split <;> omega) rfl
   (fun j v hj => by rw [Addr.add_lit, Nat.zero_add, blk_cell hvb1 j]; simpa using hj) (by simp only [List.length_cons, List.length_nil]; omega) (by simp only [List.mem_cons, List.not_mem_nil, or_false]; rintro v (rfl | rfl) <;> rfl)
 have hN2 : W2.heap[W.heap.size]? = some (.cells Z1 23 (0, 0)) := by rw [hW2]; exact setRow_heap W1 _ _ _ _ _ hN
 have hg2 : W2.heap[g]? = some (.cells cur 23 (0, 0)) := by rw [hW2, setRow_other _ _ _ _ (Nat.ne_of_lt hglt)]; exact hg1
 have hB2 : Below W.heap.size W W2 := by
  rw [hW2]
  exact hB1.trans ⟨rfl, rfl, rfl, by simp [World.setRow], fun k hk => setRow_other W1 _ k _ (by omega)⟩
 have hZ1l : Z1.toList = Value.string x.f0 :: Value.string x.f1 :: Z.toList.drop 2 := by rw [hZ1]; simp
 have hZ1s : Z1.size = G * 2 := by
  rw [← Array.length_toList, hZ1l]
  simp only [List.length_cons, List.length_drop, Array.length_toList]
  omega
 obtain ⟨Z2, hZ2⟩ : ∃ Z2, Z2 = (Z1.toList.take 2 ++ inner ++ Z1.toList.drop (2 + inner.length)).toArray := ⟨_, rfl⟩
 obtain ⟨W3, hW3⟩ : ∃ W3, W3 = W2.drew.setRow W.heap.size Z2 := ⟨_, rfl⟩
 have hcpB : ∀ ty dc sc, (Builtin.copy_ #[33, 33] ty #[.slice (some ⟨W.heap.size, 2, none⟩) n dc, .slice (some ⟨g, 0, none⟩) n sc]).run Tryd.prog W2.drew = .ok (goInt n) W3 := fun ty dc sc => by
  rw [hW3, hZ2]
  exact impl_AddField.ins_copy W2.drew 33 33 ty 23 2 W.heap.size 2 n dc ⟨g, 0, none⟩ n sc Z1 23 inner n Tryd.underlying33 hsz hN2 (by simp only [Nat.min_def]; split <;> omega) hil
   (fun j v hj => by
    rw [Addr.add_lit, Nat.zero_add, blk_cell (w := W2.drew) hg2 j]
    rw [← hcur, List.getElem?_take] at hj
    split at hj
    ·
     simpa using hj
    ·
     cases hj) (by omega) h1
 have hN3 : W3.heap[W.heap.size]? = some (.cells Z2 23 (0, 0)) := by rw [hW3]; exact setRow_heap W2.drew _ _ _ _ _ hN2
 have hB3 : Below W.heap.size W W3 := by
  rw [hW3]
  exact hB2.drew.trans ⟨rfl, rfl, rfl, by simp [World.setRow], fun k hk => setRow_other W2.drew _ k _ (by omega)⟩
 have hZ2l : Z2.toList = Value.string x.f0 :: Value.string x.f1 :: (inner ++ Z1.toList.drop (2 + inner.length)) := by rw [hZ2, hZ1l]; simp
 have hZ2t : Z2.toList.take ((n + 1) * 2) = Value.string x.f0 :: Value.string x.f1 :: inner := by
  rw [hZ2l, show (n + 1) * 2 = n * 2 + 1 + 1 by omega, List.take_succ_cons, List.take_succ_cons, ← hil, List.take_left]
 have hZ2s : Z2.size = G * 2 := by
  rw [← Array.length_toList, hZ2l]
  simp only [List.length_cons, List.length_append, List.length_drop, Array.length_toList]
  omega
 subst hW1
 have hw1 : IntKind.i64.wrap 1 = 1 := by decide
 have hb1 : (1 : Int) ≤ (n : Int) + 1 := by omega
 have hG1 : ¬ (G = 1) := by omega
 have hG0 : ¬ (G = 0) := by omega
 have hci : ¬ (c = 0) := by omega
 have CA := Aside0.mk hcpA
 have CB := Aside0.mk hcpB
 have F1 := Aside0.mk hN3
 have F2 := Aside0.mk hB3
 have F3 := Aside0.mk hZ2t
 have F4 := Aside0.mk hZ2s
 have FR := Aside0.mk hrz
 clear hN3 hB3 hZ2t hZ2s hcpA hcpB hN hB1 hvb1 hg1 hZ1 hW2 hN2 hg2 hB2 hZ1l hZ1s hZ2 hW3 hZ2l hrz h1 hil hcur hg hvb hn
 go_enter Tryd.func54, Tryd.ntmps54
 go_wp2_with (first
  | (at_builtin; refine Lib.wpList_append_run _ rfl _ _ _ _ rfl _ _ rfl rfl _ _ (FR.out _) ?_)
  | (with_reducible refine impl_AddField.ins_wpcopy _ rfl (.tmp 43) (.tmp 44) 33 33 rfl _ _ rfl rfl (CA.out _ _) ?_))
 go_region_law (refine impl_AddField.ins_stepcopy rfl _ _ 33 33 rfl (.slice (some ⟨W.heap.size, 2, none⟩) n (G - 1)) (.slice (some ⟨g, 0, none⟩) n c) (by simp [Act.eval, Act.put]) (by simp [Act.eval, Act.put]) (CB.out 3 (G - 1) c) ?_)
 go_wp2
 go_ret
 exact ⟨G, Z2, rfl, g1, g2, F4.out, F3.out, F2.out, F1.out⟩
set_option maxHeartbeats 8000000 in
set_option maxRecDepth 100000 in
theorem impl_AddField.ins_shift (x : S23) (l : List S23) (n c g vb : Nat) (cur : Array Value) (inner : List Value) (W : World) (hvb : W.heap[vb]? = some (.cells #[.string x.f0, .string x.f1] 23 (0, 0))) (hg : W.heap[g]? = some (.cells cur 23 (0, 0)))
  (hvg : vb ≠ g) (hn : l.length = n) (hn0 : 0 < n) (hc : n + 1 ≤ c) (hc63 : c ≤ maxLen) (hcs : cur.size = c * 2) (hcur : cur.toList.take (n * 2) = inner) (hil : inner.length = n * 2) (h1 : ∀ v ∈ inner, v.oneCell' = true) :
  Calls Tryd.prog 54 #[.slice (some ⟨g, 0, none⟩) n c, .int .i64 0, .slice (some ⟨vb, 0, none⟩) 1 1] W fun e w' => ∃ (Z : Array Value), e = .returned (.slice (some ⟨g, 0, none⟩) (n + 1) c) ∧ Z.size = c * 2 ∧ Z.toList.take ((n + 1) * 2) = .string x.f0 :: .string x.f1 :: inner ∧ W.grownBy w' (some g) ∧ w'.heap[g]? = some (.cells Z 23 (0, 0)) := by
 have hu33 := Tryd.underlying33
 unfold maxLen at hc63
 obtain ⟨i0, hinf, hz0, hzs, hzb⟩ := info_parts info23
 have hsz : (Tryd.prog.info? 23).map (·.size) = some 2 := by rw [hinf]; simp [hzs]
 have hvlt : vb < W.heap.size := blk_lt hvb
 have hglt : g < W.heap.size := blk_lt hg
 have hov : ∀ lb cb, (callFunc 60 #[.slice (some ⟨vb, 0, none⟩) 1 1, .slice (some ⟨g, 2, none⟩) lb cb]).run Tryd.prog W = .ok (.value (.bool false)) W := fun lb cb => by
  rw [run_callFunc_extern Tryd.func60 (by kernel_rfl) (by kernel_rfl) (by kernel_rfl) (e := Extern.SlicesOverlaps.overlaps #[33, 33] #[4]) (by kernel_rfl),
   Lib.run_overlaps_apart W 33 4 23 Tryd.underlying33 2 (fun w => by simp [sizeOf, typeInfo, hinf, hzs]) ⟨vb, 0, none⟩ ⟨g, 2, none⟩ 1 1 lb cb hvg 23 23 2 (c * 2) (by simp [World.shape?, hvb]) (by simp [World.shape?, hg, hcs]) (by omega) (blk_frozen hvb 0) (blk_frozen hvb 2)]
  rfl
 obtain ⟨Z1, hZ1⟩ : ∃ Z1, Z1 = (cur.toList.take 2 ++ inner ++ cur.toList.drop (2 + inner.length)).toArray := ⟨_, rfl⟩
 obtain ⟨W2, hW2⟩ : ∃ W2, W2 = W.drew.setRow g Z1 := ⟨_, rfl⟩
 have hg0 : W.drew.heap[g]? = some (.cells cur 23 (0, 0)) := hg
 have hcpB : ∀ ty dc sc, (Builtin.copy_ #[33, 33] ty #[.slice (some ⟨g, 2, none⟩) n dc, .slice (some ⟨g, 0, none⟩) (n + 1) sc]).run Tryd.prog W.drew = .ok (goInt n) W2 := fun ty dc sc => by
  rw [hW2, hZ1]
  exact impl_AddField.ins_copy W.drew 33 33 ty 23 2 g 2 n dc ⟨g, 0, none⟩ (n + 1) sc cur 23 inner n Tryd.underlying33 hsz hg0 (by simp only [Nat.min_def]; split <;> omega) hil
   (fun j v hj => by
    rw [Addr.add_lit, Nat.zero_add, blk_cell hg0 j]
    rw [← hcur, List.getElem?_take] at hj
    split at hj
    ·
     simpa using hj
    ·
     cases hj) (by omega) h1
 have hg2 : W2.heap[g]? = some (.cells Z1 23 (0, 0)) := by rw [hW2]; exact setRow_heap W.drew _ _ _ _ _ hg0
 have hv2 : W2.heap[vb]? = some (.cells #[.string x.f0, .string x.f1] 23 (0, 0)) := by rw [hW2, setRow_other _ _ _ _ hvg]; exact hvb
 have hB2 : W.grownBy W2 (some g) := by
  rw [hW2]
  exact ⟨rfl, rfl, rfl, by simp [World.setRow], fun k hk hne => setRow_other W.drew _ k _ (fun e => hne (by rw [e]))⟩
 have hZ1s : Z1.size = c * 2 := by
  have := congrArg List.length hcur
  rw [hZ1]
  simp only [List.size_toArray, List.length_append, List.length_take, List.length_drop, Array.length_toList] at this ⊢
  omega
 have hZ1d : Z1.toList.drop 2 = inner ++ cur.toList.drop (2 + inner.length) := by
  have h2 : (cur.toList.take 2).length = 2 := by simp only [List.length_take, Array.length_toList]; omega
  rw [hZ1, List.append_assoc]
  show (cur.toList.take 2 ++ _).drop 2 = _
  rw [List.drop_append_of_le_length (by omega), List.drop_of_length_le (by omega), List.nil_append]
 obtain ⟨Z2, hZ2⟩ : ∃ Z2, Z2 = (Z1.toList.take 0 ++ [Value.string x.f0, Value.string x.f1] ++ Z1.toList.drop (0 + [Value.string x.f0, Value.string x.f1].length)).toArray := ⟨_, rfl⟩
 obtain ⟨W3, hW3⟩ : ∃ W3, W3 = W2.setRow g Z2 := ⟨_, rfl⟩
 have hcpA : ∀ ty dc, (Builtin.copy_ #[33, 33] ty #[.slice (some ⟨g, 0, none⟩) (n + 1) dc, .slice (some ⟨vb, 0, none⟩) 1 1]).run Tryd.prog W2 = .ok (goInt 1) W3 := fun ty dc => by
  rw [hW3, hZ2]
  exact impl_AddField.ins_copy W2 33 33 ty 23 2 g 0 (n + 1) dc ⟨vb, 0, none⟩ 1 1 Z1 23 [.string x.f0, .string x.f1] 1 Tryd.underlying33 hsz hg2 (by simp only [Nat.min_def]; split <;> omega) rfl
   (fun j v hj => by rw [Addr.add_lit, Nat.zero_add, blk_cell hv2 j]; simpa using hj) (by simp only [List.length_cons, List.length_nil]; omega) (by simp only [List.mem_cons, List.not_mem_nil, or_false]; rintro v (rfl | rfl) <;> rfl)
 have hg3 : W3.heap[g]? = some (.cells Z2 23 (0, 0)) := by rw [hW3]; exact setRow_heap W2 _ _ _ _ _ hg2
 have hB3 : W.grownBy W3 (some g) := by
  rw [hW3]
  exact hB2.trans ⟨rfl, rfl, rfl, by simp [World.setRow], fun k hk hne => setRow_other W2 _ k _ (fun e => hne (by rw [e]))⟩
 have hZ2l : Z2.toList = Value.string x.f0 :: Value.string x.f1 :: (inner ++ cur.toList.drop (2 + inner.length)) := by rw [hZ2, ← hZ1d]; simp
 have hZ2t : Z2.toList.take ((n + 1) * 2) = Value.string x.f0 :: Value.string x.f1 :: inner := by
  rw [hZ2l, show (n + 1) * 2 = n * 2 + 1 + 1 by omega, List.take_succ_cons, List.take_succ_cons, ← hil, List.take_left]
 have hZ2s : Z2.size = c * 2 := by
  rw [hZ2]
  simp only [List.size_toArray, List.length_append, List.length_take, List.length_drop, Array.length_toList, List.length_cons, List.length_nil]
  omega
 have hw1 : IntKind.i64.wrap 1 = 1 := by decide
 have hb1 : (1 : Int) ≤ (n : Int) + 1 := by omega
 have hb2 : ¬ ((c : Int) < (n : Int) + 1) := by omega
 have hb3 : (0 : Int) ≤ (n : Int) + 1 := by omega
 have hc1 : ¬ (c = 1) := by omega
 have hc0 : ¬ (c = 0) := by omega
 have CA := Aside0.mk hcpA
 have CB := Aside0.mk hcpB
 have CO := Aside0.mk hov
 have F1 := Aside0.mk hg3
 have F2 := Aside0.mk hB3
 have F3 := Aside0.mk hZ2t
 have F4 := Aside0.mk hZ2s
 clear hcpA hcpB hov hg3 hB3 hZ2t hZ2s hZ2l hW3 hZ2 hZ1d hZ1s hB2 hv2 hg2 hg0 hW2 hZ1 h1 hil hcur hcs hn hg hvb hinf hz0 hzs hzb hsz
 go_enter Tryd.func54, Tryd.ntmps54
 go_wp2_with (first
  | (simp only [CO.out])
  | (with_reducible refine impl_AddField.ins_wpcopy _ rfl (.tmp 80) (.tmp 81) 33 33 rfl _ _ rfl rfl (CA.out _ _) ?_))
 go_region_law (refine impl_AddField.ins_stepcopy rfl _ _ 33 33 rfl (.slice (some ⟨g, 2, none⟩) n (c - 1)) (.slice (some ⟨g, 0, none⟩) (n + 1) c) (by simp [Act.eval, Act.put]) (by simp [Act.eval, Act.put]) (CB.out 3 (c - 1) c) ?_)
 go_wp2_with (first
  | (with_reducible refine impl_AddField.ins_wpcopy _ rfl (.tmp 80) (.tmp 81) 33 33 rfl _ _ rfl rfl (CA.out _ _) ?_))
 go_ret
 exact ⟨Z2, rfl, F4.out, F3.out, F2.out, F1.out⟩
/-- slices.Insert at the place 0 of a row of the call's own: the row with the field ahead. -/
theorem impl_AddField.ins (v : Value) (x : S23) (l : List S23) (w0 W : World) (base vb : Nat) (ok : Nat → Prop) (hvb : W.heap[vb]? = some (.cells #[.string x.f0, .string x.f1] 23 (0, 0))) (hnb : ¬ ok vb) (hok : ∀ k, W.heap.size ≤ k → ok k) (HO : Kd.R k23 23 W base ok v l) (HB : Below base w0 W) (hbase : base ≤ W.heap.size) (hl : (l.length + 1) * 32 ≤ 140737488355328) :
  Calls Tryd.prog 54 #[v, .int .i64 0, .slice (some ⟨vb, 0, none⟩) 1 1] W fun e w' => ∃ v' : Value, e = .returned v' ∧ Kd.R k23 23 w' base ok v' (x :: l) ∧ Below base w0 w' ∧ W.grownBy w' v.ownBlock := by
 by_cases h0 : l = []
 ·
  subst h0
  exact impl_AddField.ins_end v x w0 W base vb ok hvb hok HO HB hbase
 have hl0 : 0 < l.length := List.length_pos_iff.mpr h0
 obtain ⟨hk0, inner, hown, hr⟩ := HO
 have h1 := impl_AddField.ins_one hr
 obtain ⟨hil0, hh⟩ := hown
 have hil : inner.length = l.length * 2 := hil0
 rcases hh with ⟨_, hz⟩ | ⟨g, c, cur, rfl, hbg, hg, hnc, hcm, hcs, hcur⟩
 ·
  omega
 have hgo : ok g := hk0 g rfl
 have hvg : vb ≠ g := fun e => hnb (e ▸ hgo)
 by_cases hc : c < l.length + 1
 ·
  refine (impl_AddField.ins_grow x l l.length c g vb cur inner W hvb hg rfl hl0 hnc hc hcur hil h1 hl).mono ?_
  rintro e w' ⟨G, Z, rfl, g1, g2, hZs, hZt, hB, hh⟩
  refine ⟨_, rfl, ⟨fun k hk => ?_, _, ⟨?_, .inr ⟨W.heap.size, G, Z, rfl, hbase, hh, g1, g2, hZs, hZt⟩⟩, impl_AddField.ins_reps x hr _ _ _⟩, below_then HB hbase hB, ?_⟩
  ·
   have : W.heap.size = k := by simpa [Value.ownBlock] using hk
   exact hok k (by omega)
  ·
   show inner.length + 1 + 1 = (l.length + 1) * 2
   omega
  ·
   exact ⟨hB.os, hB.tape, hB.output, hB.size, fun k hk _ => hB.block k hk⟩
 ·
  refine (impl_AddField.ins_shift x l l.length c g vb cur inner W hvb hg hvg rfl hl0 (by omega) hcm hcs hcur hil h1).mono ?_
  rintro e w' ⟨Z, rfl, hZs, hZt, hG, hh⟩
  refine ⟨_, rfl, ⟨hk0, _, ⟨?_, .inr ⟨g, c, Z, rfl, hbg, hh, by simp only [List.length_cons]; omega, hcm, hZs, hZt⟩⟩, impl_AddField.ins_reps x hr _ _ _⟩, HB.grown hG hbase (fun k hk => ?_), hG⟩
  ·
   show inner.length + 1 + 1 = (l.length + 1) * 2
   omega
  ·
   have : g = k := by simpa using hk
   omega
theorem impl_AddField.own_ {w : World} {b : Nat} {ok : Nat → Prop} {v : Value} {l : List S23} (h : Kd.R k23 23 w b ok v l) : Kd.R k23 23 w b (fun k => some k = v.ownBlock) v l := by
 obtain ⟨_, inner, hown, hr⟩ := h
 exact ⟨fun k hk => hk.symm, inner, hown, hr.imp_ (fun y cs hy => by rw [k23_openM hy]; exact k23_mkM _ _ _ y)⟩
/-- What trim leaves, told of the table's block. -/
theorem impl_AddField.trimmed (g : Nat) (m : Int) (A : Option Addr) (c : Nat) (L : List S23) (w0 W Wt w13 : World) (own : Nat → Prop) (hp : impl_AddField.Post g L Wt w13 (impl_AddField.tr L.length m L 0))
  (hg : Wt.heap[g]? = some (.cells #[.int .i64 m, .slice A L.length c] 35 (0, 0))) (hR : Kd.R k23 23 Wt w0.heap.size (fun k => own k ∨ W.heap.size ≤ k) (.slice A L.length c) L) (hB : Below w0.heap.size w0 Wt) (hgb : w0.heap.size ≤ g) (hK : Kept W Wt (fun k => k = g ∨ own k)) :
  ∃ v : Value, w13.heap[g]? = some (.cells #[.int .i64 m, v] 35 (0, 0)) ∧ Kd.R k23 23 w13 w0.heap.size (fun k => own k ∨ W.heap.size ≤ k) v (impl_AddField.cut m L) ∧ Below w0.heap.size w0 w13 ∧ Kept W w13 (fun k => k = g ∨ own k) := by
 unfold impl_AddField.Post at hp
 rcases hp with ⟨h, hb⟩ | ⟨i, w1, v, h, hb, hr, rfl⟩
 ·
  have hcut : impl_AddField.cut m L = L := by unfold impl_AddField.cut; rw [h]
  rw [hcut]
  exact ⟨_, blk_below hg hb, Kd.R_below hR hb, below_step hB hb, hK.below hb⟩
 ·
  have hcut : impl_AddField.cut m L = L.take i := by unfold impl_AddField.cut; rw [h]
  rw [hcut]
  have b5 := blk_below hg hb
  refine ⟨v, blk_put (cs := #[.int .i64 m, .slice A L.length c]) b5 1 _ rfl, ?_, below_set (below_step hB hb) hgb, (hK.below hb).setCell (.inl (.inl rfl)) v⟩
  have s1 : w0.heap.size ≤ Wt.heap.size := hB.size
  have s2 : W.heap.size ≤ Wt.heap.size := hK.1
  refine Kd.R_mono (Kd.R_far (p := ⟨g, 1, none⟩) (Kd.R_types (Kd.R_lower (Kd.R_bound hr) s1) b5 (by decide)) (fun _ hk => hk.2) v) (fun k hk => .inr ?_)
  have := hk.1.2.1
  omega
/-- What add leaves. -/
def impl_AddField.AddPost (g : Nat) (m : Int) (own : Nat → Prop) (L : List S23) (w0 W : World) (e : Ending) (w' : World) : Prop :=
 e = .returned (.tuple #[]) ∧ ∃ v : Value, w'.heap[g]? = some (.cells #[.int .i64 m, v] 35 (0, 0)) ∧ Kd.R k23 23 w' w0.heap.size (fun k => own k ∨ W.heap.size ≤ k) v (impl_AddField.cut m L) ∧ Below w0.heap.size w0 w' ∧ Kept W w' (fun k => k = g ∨ own k)
set_option maxHeartbeats 8000000 in
set_option maxRecDepth 100000 in
theorem impl_AddField.add (g : Nat) (m : Int) (A : Option Addr) (c : Nat) (l : List S23) (x : S23) (w0 W : World) (ok : Nat → Prop) (hB : Below w0.heap.size w0 W) (hgb : w0.heap.size ≤ g)
  (hb : W.heap[g]? = some (.cells #[.int .i64 m, .slice A l.length c] 35 (0, 0))) (HO : Kd.R k23 23 W w0.heap.size ok (.slice A l.length c) l) (hl : l.length + 1 < 4398046511104) :
  Calls Tryd.prog 43 #[.pointer (some ⟨g, 0, none⟩), .agg #[.string x.f0, .string x.f1]] W (impl_AddField.AddPost g m (fun k => some k = (Value.slice A l.length c).ownBlock) (x :: l) w0 W) := by
 have hu1 := Tryd.underlying35
 have hu2 := Tryd.underlying23
 have hu3 := Tryd.underlying33
 obtain ⟨own, hown⟩ : ∃ own : Nat → Prop, own = fun k => some k = (Value.slice A l.length c).ownBlock := ⟨_, rfl⟩
 have hone : ∀ k, own k ↔ some k = (Value.slice A l.length c).ownBlock := fun k => by rw [hown]
 rw [← hown]
 obtain ⟨L, hL⟩ : ∃ L, L = x :: l := ⟨_, rfl⟩
 have hLl : L.length = l.length + 1 := by rw [hL]; rfl
 rw [← hL]
 have HG := Aside0.mk (Kd.R_ne HO hb (by decide))
 have HLT := Aside0.mk (Kd.R_lt HO)
 have HOW := Aside0.mk hone
 have HO' := Aside0.mk (impl_AddField.own_ HO)
 rw [← hown] at HO'
 have HB := Aside0.mk hB
 have HGB := Aside0.mk hgb
 have BK := Aside0.mk hb
 have HL := Aside0.mk hl
 have HLL := Aside0.mk hLl
 have HLE := Aside0.mk hL
 clear hb hB hgb hl hone hown hLl hL HO
 go_enter Tryd.func43, Tryd.ntmps43
 go_wp2_with ((with_reducible refine gate_dst (N := 3) rfl ?_); refine box_event ?hg (N := 3) ?hd (cs := #[.string x.f0, .string x.f1]) (t := 23) ?hr ?_; (case hd => rfl); (case hg => rfl); (case hr => first | (go_simp; done) | (go_simp; rfl)); intro gx hg w8 hbox hb; have BKX := Aside0.mk (blk_drew hbox); have HB8 := Aside0.mk (below_drew1 (below_step HB.out hb)); have HK8 := Aside0.mk ((Kept.of_below hb (fun k => k = g ∨ own k)).drew); have HO8 := Aside0.mk (Kd.R_drew (Kd.R_below HO'.out hb)); have BK8 := Aside0.mk (blk_drew (blk_below BK.out hb)); have HLT8 := Aside0.mk ((fun k hk => Nat.lt_of_lt_of_le (HLT.out k hk) hb.size) : ∀ k, (Value.slice A l.length c).ownBlock = some k → k < w8.heap.size); have GX8 := Aside0.mk ((by rw [hg]; exact Nat.le_refl _) : W.heap.size ≤ gx); clear hg hb hbox)
 refine start_ (n := 11) (S := fun w' => w'.cell? ⟨g, 1, none⟩ = some (.slice A l.length c) ∧ w'.cell? ⟨gx, 0, none⟩ = some (.string x.f0) ∧ w'.cell? ⟨gx, 1, none⟩ = some (.string x.f1)) (ds := [10]) #[false, false, false, false, false, false, false, false, false, false, false] (by kernel_rfl) rfl rfl ⟨(blk_cell BK8.out 1).trans rfl, (blk_cell BKX.out 0).trans rfl, (blk_cell BKX.out 1).trans rfl⟩ (fun hHeld => ?_)
 generalize hwd : w8.drew = w9 at BKX BK8 HB8 HK8 HO8 hHeld ⊢
 have HLT9 : Aside0 (∀ k, (Value.slice A l.length c).ownBlock = some k → k < w9.heap.size) := by rw [← hwd]; exact HLT8
 clear hwd HLT8
 refine pure_ (i := 0) (N := some 4) (v := ?_) (a' := ?_) #[true, false, false, false, false, false, false, false, false, false, false] rfl rfl (by kernel_rfl) (fun _ _ _ h => h) (Or.inl ⟨by rfl, ?_⟩) ?_ ?_
 rotate_left
 ·
  intro w'
  go_simp
  with_reducible rfl
 rotate_left
 ·
  simp only [Act.put, List.setIfInBounds_toArray, List.set_cons_zero, List.set_cons_succ, i64_w, i32_w]
  rfl
 refine pure_ (i := 1) (N := some 5) (v := ?_) (a' := ?_) #[true, true, false, false, false, false, false, false, false, false, false] rfl rfl (by kernel_rfl) (fun _ _ _ h => h) (Or.inl ⟨by rfl, ?_⟩) ?_ ?_
 rotate_left
 ·
  intro w'
  go_simp
  with_reducible rfl
 rotate_left
 ·
  simp only [Act.put, List.setIfInBounds_toArray, List.set_cons_zero, List.set_cons_succ, i64_w, i32_w]
  rfl
 refine pure_ (i := 2) (N := some 6) (v := ?_) (a' := ?_) #[true, true, true, false, false, false, false, false, false, false, false] rfl rfl (by kernel_rfl) (fun _ _ _ h => h) (Or.inl ⟨by rfl, ?_⟩) ?_ ?_
 rotate_left
 ·
  intro w'
  go_simp
  with_reducible rfl
 rotate_left
 ·
  simp only [Act.put, List.setIfInBounds_toArray, List.set_cons_zero, List.set_cons_succ, i64_w, i32_w]
  rfl
 refine pure_ (i := 3) (N := some 7) (v := ?_) (a' := ?_) #[true, true, true, true, false, false, false, false, false, false, false] rfl rfl (by kernel_rfl) (fun _ _ _ h => h) (Or.inl ⟨by rfl, ?_⟩) ?_ ?_
 rotate_left
 ·
  intro w'
  go_simp
  with_reducible rfl
 rotate_left
 ·
  simp only [Act.put, List.setIfInBounds_toArray, List.set_cons_zero, List.set_cons_succ, i64_w, i32_w]
  rfl
 refine take_ (i := 4) (N := some 8) (v := ?_) (a' := ?_) #[true, true, true, true, true, false, false, false, false, false, false] rfl rfl (by kernel_rfl) (fun _ _ _ h => h) (Or.inl ⟨by rfl, ?_⟩) hHeld ?_ ?_
 rotate_left
 ·
  rintro w' ⟨s0, s1, s2⟩
  go_simp
  with_reducible rfl
 rotate_left
 ·
  simp only [Act.put, List.setIfInBounds_toArray, List.set_cons_zero, List.set_cons_succ, i64_w, i32_w]
  rfl
 refine take_ (i := 5) (N := some 9) (v := ?_) (a' := ?_) #[true, true, true, true, true, true, false, false, false, false, false] rfl rfl (by kernel_rfl) (fun _ _ _ h => h) (Or.inl ⟨by rfl, ?_⟩) hHeld ?_ ?_
 rotate_left
 ·
  rintro w' ⟨s0, s1, s2⟩
  go_simp
  with_reducible rfl
 rotate_left
 ·
  simp only [Act.put, List.setIfInBounds_toArray, List.set_cons_zero, List.set_cons_succ, i64_w, i32_w]
  rfl
 refine one_ (i := 6) (N := some 10) #[true, true, true, true, true, true, true, false, false, false, false] rfl rfl (by kernel_rfl) (by decide) (fun K hK => ?_)
 refine value_ (w1 := w9.alloc (.cells #[.string x.f0, .string x.f1] 23)) (v := .slice (some ⟨w9.heap.size, 0, none⟩) 1 1) (by rfl) rfl ?_ ?_
 ·
  first | (go_simp; done) | (go_simp; rfl)
 refine hK.out _ _ ⟨(blk_cell (blk_alloc BK8.out _) 1).trans rfl, (blk_cell (blk_alloc BKX.out _) 0).trans rfl, (blk_cell (blk_alloc BKX.out _) 1).trans rfl⟩ (fun hHeld => ?_)
 clear hK K
 refine norm_ (a' := ?_) ?_ ?_
 rotate_left
 ·
  show Act.put _ (some 10) _ = _
  simp only [Act.put, List.setIfInBounds_toArray, List.set_cons_zero, List.set_cons_succ, i64_w, i32_w]
  rfl
 refine one_ (i := 7) (N := some 11) #[true, true, true, true, true, true, true, true, false, false, false] rfl rfl (by kernel_rfl) (by decide) (fun K hK => ?_)
 refine goes_ Tryd.func54 (by kernel_rfl) rfl #[.slice A l.length c, .int .i64 0, .slice (some ⟨w9.heap.size, 0, none⟩) 1 1] (by rfl) rfl rfl (by (try simp only [List.map_toArray, List.map_cons, List.map_nil]); first | done | rfl) ?_
 with_reducible refine (impl_AddField.ins (.slice A l.length c) x l w0 _ w0.heap.size w9.heap.size (fun k => own k ∨ w9.heap.size + 1 ≤ k) ?s1 ?s2 ?s3 ?s4 ?s5 ?s6 ?s7).mono ?_
 case s1 => exact heap_alloc_new w9 _
 case s2 =>
  rintro (hq | hq)
  ·
   exact Nat.lt_irrefl _ (HLT9.out _ ((HOW.out _).1 hq).symm)
  ·
   exact Nat.not_succ_le_self _ hq
 case s3 =>
  intro k hk
  rw [World.size_alloc] at hk
  exact .inr hk
 case s4 => exact Kd.R_mono (Kd.R_alloc HO8.out _) (fun k hk => .inl hk)
 case s5 => exact below_alloc HB8.out _
 case s6 => exact below_size (below_alloc HB8.out _)
 case s7 => have := HL.out; omega
 rintro e w11 ⟨v11, rfl, h1, h2, h3⟩
 rw [← HLE.out] at h1
 obtain ⟨A11, c11, ev⟩ := Kd.R_slice h1
 subst ev
 refine ⟨_, rfl, ?_⟩
 have HO11 := Aside0.mk (Kd.R_mono h1 (fun k hk => (hk.imp id (fun hk => Nat.le_trans HK8.out.1 (Nat.le_trans (Nat.le_succ _) hk)) : own k ∨ W.heap.size ≤ k)))
 have HB11 := Aside0.mk h2
 have BK11 := Aside0.mk ((h3.block g (Nat.lt_of_lt_of_le (blk_lt BK8.out) (by rw [World.size_alloc]; omega)) HG.out).trans (blk_alloc BK8.out _))
 have BKX11 := Aside0.mk ((h3.block gx (Nat.lt_of_lt_of_le (blk_lt BKX.out) (by rw [World.size_alloc]; omega)) (fun e => by have := HLT.out gx e.symm; have := GX8.out; omega)).trans (blk_alloc BKX.out _))
 have HK11 := Aside0.mk (Kept.of_grown h3 (HK8.out.alloc _) (fun k hk => .inl (.inr ((HOW.out k).2 hk.symm))))
 clear h1 h2 h3
 refine hK.out _ _ ⟨(blk_cell BK11.out 1).trans rfl, (blk_cell BKX11.out 0).trans rfl, (blk_cell BKX11.out 1).trans rfl⟩ (fun hHeld => ?_)
 clear hK K
 refine norm_ (a' := ?_) ?_ ?_
 rotate_left
 ·
  show Act.put _ (some 11) _ = _
  simp only [Act.put, List.setIfInBounds_toArray, List.set_cons_zero, List.set_cons_succ, i64_w, i32_w]
  rfl
 refine pure_ (i := 8) (N := some 12) (v := ?_) (a' := ?_) #[true, true, true, true, true, true, true, true, true, false, false] rfl rfl (by kernel_rfl) (fun _ _ _ h => h) (Or.inl ⟨by rfl, ?_⟩) ?_ ?_
 rotate_left
 ·
  intro w'
  go_simp
  with_reducible rfl
 rotate_left
 ·
  simp only [Act.put, List.setIfInBounds_toArray, List.set_cons_zero, List.set_cons_succ, i64_w, i32_w]
  rfl
 refine pure_ (i := 9) (N := some 13) (v := ?_) (a' := ?_) #[true, true, true, true, true, true, true, true, true, true, false] rfl rfl (by kernel_rfl) (fun _ _ _ h => h) (Or.inl ⟨by rfl, ?_⟩) ?_ ?_
 rotate_left
 ·
  intro w'
  go_simp
  with_reducible rfl
 rotate_left
 ·
  simp only [Act.put, List.setIfInBounds_toArray, List.set_cons_zero, List.set_cons_succ, i64_w, i32_w]
  rfl
 refine last_ (i := 10) (N := none) #[true, true, true, true, true, true, true, true, true, true, true] rfl rfl (by kernel_rfl) (by decide) (fun K hK => ?_)
 have hcz4 : w11.cell? ⟨g, 1, none⟩ = some (.slice A l.length c) := (blk_cell BK11.out 1).trans rfl
 have hfz4 := blk_frozen BK11.out 1
 refine skip_ (w1 := w11.setCell ⟨g, 1, none⟩ (.slice A11 L.length c11)) (by rfl) rfl ?_ ?_
 ·
  first | (go_simp; done) | (go_simp; rfl)
 refine hK.out _ _ ?_
 clear hK K
 refine done_ (by kernel_rfl) ?_
 have BK12 := Aside0.mk (blk_put (cs := #[.int .i64 m, .slice A l.length c]) BK11.out 1 (.slice A11 L.length c11) rfl)
 have HO12 := Aside0.mk (Kd.R_mono (Kd.R_far (p := ⟨g, 1, none⟩) (Kd.R_types HO11.out BK11.out (by decide)) (fun _ hk => hk.2) (.slice A11 L.length c11)) (fun _ hk => hk.1))
 have HB12 := Aside0.mk (below_set HB11.out HGB.out : Below w0.heap.size w0 (w11.setCell ⟨g, 1, none⟩ (.slice A11 L.length c11)))
 have HK12 := Aside0.mk (HK11.out.setCell (p := ⟨g, 1, none⟩) (.inl (.inl rfl)) (.slice A11 L.length c11))
 generalize w11.setCell ⟨g, 1, none⟩ (.slice A11 L.length c11) = w12 at BK12 HO12 HB12 HK12 ⊢
 clear hcz4 hfz4 hHeld
 go_wp2_with ((with_reducible refine gate_callee (f := 55) rfl ?_); refine goesL_ (some 15) rfl rfl Tryd.func55 (by kernel_rfl) rfl #[.pointer (some ⟨g, 0, none⟩)] rfl (by (try simp only [List.map_toArray, List.map_cons, List.map_nil]); first | done | rfl) ?_; (with_reducible refine (impl_AddField.trim g m A11 c11 L _ ?s1 ?s2 ?s3 ?s4).mono ?_); (case s1 => exact BK12.out); (case s2 => exact (Kd.R_reads' HO12.out).2.2); (case s3 => exact (Kd.R_reads' HO12.out).2.1); (case s4 => rw [HLL.out]; exact HL.out); rintro e w13 ⟨rfl, hp⟩; refine ⟨_, rfl, ?_⟩; have HP := Aside0.mk (impl_AddField.trimmed g m A11 c11 L w0 W _ w13 own hp BK12.out HO12.out HB12.out HGB.out HK12.out); clear hp)
 go_end0
 exact ⟨rfl, HP.out⟩
def impl_AddField.f (k : Nat) (a0_0 : Int) (l0_1 : List (S23)) (a1_0 a1_1 : ByteArray) : Option (Int × (List (S23))) := if l0_1.length + 1 < 4398046511104 then ((impl_TableOk.f k a0_0 l0_1).bind fun c => (if c = true then (some (a0_0, impl_AddField.cut a0_0 ((⟨a1_0, a1_1⟩ : S23) :: l0_1))) else (some (a0_0, l0_1)))) else none
theorem impl_AddField.mono : ∀ a0 a1 a2 a3 k, LeO (impl_AddField.f k a0 a1 a2 a3) (impl_AddField.f (k + 1) a0 a1 a2 a3) := by
 intro a0 a1 a2 a3 k
 unfold impl_AddField.f
 refine LeO.ite (LeO.bind (impl_TableOk.mono _ _ _) (fun _ => LeO.refl _)) (LeO.none _)
set_option maxHeartbeats 8000000 in
set_option maxRecDepth 100000 in
theorem impl_AddField.calls (k : Nat) (a0_0 : Int) (A0_1 : Option Addr) (c0_1 : Nat) (l0_1 : List (S23)) (a1_0 : ByteArray) (a1_1 : ByteArray) (r1 : Int) (r2 : List (S23)) (w : World) (hr0_1 : Kd.C k23 w A0_1 l0_1.length l0_1) (hc0_1 : l0_1.length ≤ c0_1) (h : impl_AddField.f k a0_0 l0_1 a1_0 a1_1 = some (r1, r2)) :
  Calls Tryd.prog 24 #[.agg #[.int .i64 a0_0, .slice A0_1 l0_1.length c0_1], .agg #[.string a1_0, .string a1_1]] w fun e w' => ∃ v1_ : Value, e = .returned (.agg #[.int .i64 r1, v1_]) ∧ Kd.R k23 23 w' w.heap.size (fun _ => True) v1_ r2 ∧ Below w.heap.size w w' := by
 have hu35 := Tryd.underlying35
 have hu23 := Tryd.underlying23
 have HR0_1 := Aside0.mk hr0_1
 have HC0_1 := Aside0.mk hc0_1
 clear hr0_1 hc0_1
 unfold impl_AddField.f at h
 by_cases hl : l0_1.length + 1 < 4398046511104
 ·
  rw [if_pos hl] at h
  have hcp : impl_copyTable.f a0_0 l0_1 = some (a0_0, l0_1) := by
   unfold impl_copyTable.f impl_Field_53.f
   rw [Option.bind_some, if_pos (by rw [List.length_nil]; omega), List.nil_append, Option.bind_some]
  have HCP := Aside0.mk hcp
  have HLL := Aside0.mk hl
  clear hcp hl
  obtain ⟨c, hc1, h⟩ := Option.bind_eq_some_iff.mp h
  have HTK := Aside0.mk hc1
  clear hc1
  cases c with
  | false =>
   rw [if_neg Bool.false_ne_true] at h
   simp only [Option.some.injEq, Prod.mk.injEq] at h
   obtain ⟨rfl, rfl⟩ := h
   go_enter Tryd.func24, Tryd.ntmps24
   go_wp2_with (first | ((with_reducible refine gate_dst (N := 2) rfl ?_); refine box_event ?hg (N := 2) ?hd (cs := #[.int .i64 a0_0, .slice A0_1 l0_1.length c0_1]) (t := 35) ?hr ?_; (case hd => rfl); (case hg => rfl); (case hr => first | (go_simp; done) | (go_simp; rfl)); intro g2 hg w2 hbox hb; have BKw2 := Aside0.mk hbox; have GE2 := Aside0.mk ((by rw [hg]; exact Nat.le_refl _) : w.heap.size ≤ g2); have HBw2 := Aside0.mk hb; clear hg hb hbox) | ((with_reducible refine gate_dst (N := 3) rfl ?_); refine box_event ?hg (N := 3) ?hd (cs := #[.string a1_0, .string a1_1]) (t := 23) ?hr ?_; (case hd => rfl); (case hg => rfl); (case hr => first | (go_simp; done) | (go_simp; rfl)); intro g3 hg w3 hbox hb; have BKw3 := Aside0.mk hbox; have N23 := Aside0.mk ((by rw [hg]; exact Nat.ne_of_lt (blk_lt BKw2.out)) : g2 ≠ g3); have B2w3 := Aside0.mk (blk_below BKw2.out hb); have HBw3 := Aside0.mk (below_step HBw2.out hb); clear hg hb hbox) | ((with_reducible refine gate_dst (N := 4) rfl ?_); refine box_event ?hg (N := 4) ?hd (cs := #[.int .i64 0, .slice none 0 0]) (t := 35) ?hr ?_; (case hd => rfl); (case hg => rfl); (case hr => first | (go_simp; done) | (go_simp; rfl)); intro g4 hg w4 hbox hb; have BKw4 := Aside0.mk hbox; have GE4 := Aside0.mk ((by rw [hg]; exact below_size HBw3.out) : w.heap.size ≤ g4); have N34 := Aside0.mk ((by rw [hg]; exact Nat.ne_of_lt (blk_lt BKw3.out)) : g3 ≠ g4); have N24 := Aside0.mk ((by rw [hg]; exact Nat.ne_of_lt (blk_lt B2w3.out)) : g2 ≠ g4); have B2w4 := Aside0.mk (blk_below B2w3.out hb); have B3w4 := Aside0.mk (blk_below BKw3.out hb); have HBw4 := Aside0.mk (below_step HBw3.out hb); have hcz2_0 : w4.cell? ⟨g2, 0, none⟩ = some (.int .i64 a0_0) := (blk_cell B2w4.out 0).trans rfl; have hcz2_1 : w4.cell? ⟨g2, 1, none⟩ = some (.slice A0_1 l0_1.length c0_1) := (blk_cell B2w4.out 1).trans rfl; clear hg hb hbox) | ((with_reducible refine gate_callee (f := 42) rfl ?_); refine goesL_ (some 7) rfl rfl Tryd.func42 (by kernel_rfl) rfl #[.agg #[.int .i64 a0_0, .slice A0_1 l0_1.length c0_1]] rfl (by (try simp only [List.map_toArray, List.map_cons, List.map_nil]); first | done | rfl) ?_; (with_reducible refine (impl_copyTable.calls a0_0 _ _ l0_1 a0_0 l0_1 _ ?side1 ?side2 HCP.out).mono ?_); (case side1 => exact (Kd.C_below HR0_1.out HBw4.out)); (case side2 => exact HC0_1.out); rintro e w7 ⟨v7, rfl, ho, hb⟩; obtain ⟨A7, c7, ev⟩ := Kd.R_slice ho; subst ev; refine ⟨_, rfl, ?_⟩; have HO7 := Aside0.mk (Kd.R_lower ho (below_size HBw4.out)); have B2w7 := Aside0.mk (blk_below B2w4.out hb); have B3w7 := Aside0.mk (blk_below B3w4.out hb); have B4w7 := Aside0.mk (blk_below BKw4.out hb); have HBw7 := Aside0.mk (below_step HBw4.out hb); clear hb ho) | ((with_reducible refine gate_dst (N := 5) rfl ?_); refine box_event ?hg (N := 5) ?hd (cs := #[.int .i64 0, .slice none 0 0]) (t := 35) ?hr ?_; (case hd => rfl); (case hg => rfl); (case hr => first | (go_simp; done) | (go_simp; rfl)); intro g5 hg w8 hbox hb; have BKw8 := Aside0.mk hbox; have HO8 := Aside0.mk (Kd.R_below HO7.out hb); have B2w8 := Aside0.mk (blk_below B2w7.out hb); have B3w8 := Aside0.mk (blk_below B3w7.out hb); have B4w8 := Aside0.mk (blk_below B4w7.out hb); have GE5 := Aside0.mk ((by rw [hg]; exact below_size HBw7.out) : w.heap.size ≤ g5); have N25 := Aside0.mk ((by rw [hg]; exact Nat.ne_of_lt (blk_lt B2w7.out)) : g2 ≠ g5); have N35 := Aside0.mk ((by rw [hg]; exact Nat.ne_of_lt (blk_lt B3w7.out)) : g3 ≠ g5); have N45 := Aside0.mk ((by rw [hg]; exact Nat.ne_of_lt (blk_lt B4w7.out)) : g4 ≠ g5); have HBw8 := Aside0.mk (below_step HBw7.out hb); have hcz2d_0 : w8.cell? ⟨g2, 0, none⟩ = some (.int .i64 a0_0) := (blk_cell B2w8.out 0).trans rfl; have hcz2d_1 : w8.cell? ⟨g2, 1, none⟩ = some (.slice A0_1 l0_1.length c0_1) := (blk_cell B2w8.out 1).trans rfl; have hfz2d_0 := blk_frozen B2w8.out 0; have hfz2d_1 := blk_frozen B2w8.out 1; have hcz5d_0 : w8.cell? ⟨g5, 0, none⟩ = some (.int .i64 0) := (blk_cell BKw8.out 0).trans rfl; have hcz5d_1 : w8.cell? ⟨g5, 1, none⟩ = some (.slice none 0 0) := (blk_cell BKw8.out 1).trans rfl; have hfz5d_0 := blk_frozen BKw8.out 0; have hfz5d_1 := blk_frozen BKw8.out 1; have hnb25 := N25.out; have hnb52 := N25.out.symm; clear hg hb hbox) | ((with_reducible refine gate_callee (f := 26) rfl ?_); refine goesL_ (some 9) rfl rfl Tryd.func26 (by kernel_rfl) rfl #[.agg #[.int .i64 a0_0, .slice A0_1 l0_1.length c0_1]] rfl (by (try simp only [List.map_toArray, List.map_cons, List.map_nil]); first | done | rfl) ?_; (with_reducible refine (impl_TableOk.calls k a0_0 _ _ l0_1 false _ ?side1 ?side2 HTK.out).mono ?_); (case side1 => exact (Kd.C_below HR0_1.out (by repeat (first | (with_reducible first | exact HBw8.out | apply below_alloc | apply pw_below_drewN | apply below_drew1 | refine below_set ?_ GE5.out) | exact HBw8.out)))); (case side2 => exact HC0_1.out); rintro e w11 ⟨rfl, hb⟩; refine ⟨_, rfl, ?_⟩; have HO11 : Aside0 (Kd.R k23 23 w11 w.heap.size (fun _ => True) (.slice A7 l0_1.length c7) l0_1) := ⟨Kd.R_below (Kd.R_mono (ok := fun k_ => True ∧ k_ ≠ g5) (by (with_reducible repeat (first | apply Kd.R_drewN | apply Kd.R_drew | apply Kd.R_alloc | refine Kd.R_far (p := ⟨g5, 1, none⟩) ?_ (fun _ hk => hk.2) _ | refine Kd.R_far (p := ⟨g5, 0, none⟩) ?_ (fun _ hk => hk.2) _)); exact Kd.R_types (Kd.R_mono HO8.out (fun _ _ => trivial)) BKw8.out (by decide)) (fun _ _ => trivial)) hb⟩; have B3e := Aside0.mk (blk_below (g := g3) (o := .cells #[.string a1_0, .string a1_1] 23 (0, 0)) (by (with_reducible repeat (first | refine blk_drewN ?_ _ | refine blk_drew ?_ | refine blk_alloc ?_ _ | refine blk_far ?_ N35.out _)); exact B3w8.out) hb); have B4e := Aside0.mk (blk_below (g := g4) (o := .cells #[.int .i64 0, .slice none 0 0] 35 (0, 0)) (by (with_reducible repeat (first | refine blk_drewN ?_ _ | refine blk_drew ?_ | refine blk_alloc ?_ _ | refine blk_far ?_ N45.out _)); exact B4w8.out) hb); have B5e := Aside0.mk (blk_below (g := g5) (o := .cells #[.int .i64 a0_0, .slice A7 l0_1.length c7] 35 (0, 0)) (by (with_reducible repeat (first | refine blk_drewN ?_ _ | refine blk_drew ?_ | refine blk_alloc ?_ _)); refine blk_put (cs := #[.int .i64 a0_0, .slice none 0 0]) ?_ 1 _ rfl; (with_reducible repeat (first | refine blk_drewN ?_ _ | refine blk_drew ?_ | refine blk_alloc ?_ _)); refine blk_put (cs := #[.int .i64 0, .slice none 0 0]) ?_ 0 _ rfl; (with_reducible repeat (first | refine blk_drewN ?_ _ | refine blk_drew ?_ | refine blk_alloc ?_ _)); exact BKw8.out) hb); have HBw11 := Aside0.mk (below_step (by repeat (first | (with_reducible first | exact HBw8.out | apply below_alloc | apply pw_below_drewN | apply below_drew1 | refine below_set ?_ GE5.out) | exact HBw8.out)) hb); clear hb; have hcz3e_0 : w11.cell? ⟨g3, 0, none⟩ = some (.string a1_0) := (blk_cell B3e.out 0).trans rfl; have hcz3e_1 : w11.cell? ⟨g3, 1, none⟩ = some (.string a1_1) := (blk_cell B3e.out 1).trans rfl; have hfz3e_0 := blk_frozen B3e.out 0; have hfz3e_1 := blk_frozen B3e.out 1; have hcz4e_0 : w11.cell? ⟨g4, 0, none⟩ = some (.int .i64 0) := (blk_cell B4e.out 0).trans rfl; have hcz4e_1 : w11.cell? ⟨g4, 1, none⟩ = some (.slice none 0 0) := (blk_cell B4e.out 1).trans rfl; have hfz4e_0 := blk_frozen B4e.out 0; have hfz4e_1 := blk_frozen B4e.out 1; have hcz5e_0 : w11.cell? ⟨g5, 0, none⟩ = some (.int .i64 a0_0) := (blk_cell B5e.out 0).trans rfl; have hcz5e_1 : w11.cell? ⟨g5, 1, none⟩ = some (.slice A7 l0_1.length c7) := (blk_cell B5e.out 1).trans rfl; have hfz5e_0 := blk_frozen B5e.out 0; have hfz5e_1 := blk_frozen B5e.out 1))
   refine bodyPost_ret (results_cell_row rfl _ _ g4 35 #[.int .i64 a0_0, .slice A7 l0_1.length c7] (0, 0) _ rfl (by (with_reducible repeat (first | refine blk_drewN ?_ _ | refine blk_drew ?_ | refine blk_alloc ?_ _)); refine blk_put (cs := #[.int .i64 a0_0, .slice none 0 0]) ?_ 1 _ rfl; (with_reducible repeat (first | refine blk_drewN ?_ _ | refine blk_drew ?_ | refine blk_alloc ?_ _)); refine blk_put (cs := #[.int .i64 0, .slice none 0 0]) ?_ 0 _ rfl; (with_reducible repeat (first | refine blk_drewN ?_ _ | refine blk_drew ?_ | refine blk_alloc ?_ _)); exact B4e.out) Tryd.underlying35 rfl (by kernel_rfl)) rfl ?_
   exact ⟨_, rfl, (Kd.R_mono (ok := fun k_ => True ∧ k_ ≠ g4) (by (with_reducible repeat (first | apply Kd.R_drewN | apply Kd.R_drew | apply Kd.R_alloc | refine Kd.R_far (p := ⟨g4, 1, none⟩) ?_ (fun _ hk => hk.2) _ | refine Kd.R_far (p := ⟨g4, 0, none⟩) ?_ (fun _ hk => hk.2) _)); exact Kd.R_types (Kd.R_mono HO11.out (fun _ _ => trivial)) B4e.out (by decide)) (fun _ _ => trivial)), (by repeat (first | (with_reducible first | exact HBw11.out | apply below_alloc | apply pw_below_drewN | apply below_drew1 | refine below_set ?_ GE4.out) | exact HBw11.out))⟩
  | true =>
   rw [if_pos rfl] at h
   simp only [Option.some.injEq, Prod.mk.injEq] at h
   obtain ⟨rfl, rfl⟩ := h
   go_enter Tryd.func24, Tryd.ntmps24
   go_wp2_with (first | ((with_reducible refine gate_dst (N := 2) rfl ?_); refine box_event ?hg (N := 2) ?hd (cs := #[.int .i64 a0_0, .slice A0_1 l0_1.length c0_1]) (t := 35) ?hr ?_; (case hd => rfl); (case hg => rfl); (case hr => first | (go_simp; done) | (go_simp; rfl)); intro g2 hg w2 hbox hb; have BKw2 := Aside0.mk hbox; have GE2 := Aside0.mk ((by rw [hg]; exact Nat.le_refl _) : w.heap.size ≤ g2); have HBw2 := Aside0.mk hb; clear hg hb hbox) | ((with_reducible refine gate_dst (N := 3) rfl ?_); refine box_event ?hg (N := 3) ?hd (cs := #[.string a1_0, .string a1_1]) (t := 23) ?hr ?_; (case hd => rfl); (case hg => rfl); (case hr => first | (go_simp; done) | (go_simp; rfl)); intro g3 hg w3 hbox hb; have BKw3 := Aside0.mk hbox; have N23 := Aside0.mk ((by rw [hg]; exact Nat.ne_of_lt (blk_lt BKw2.out)) : g2 ≠ g3); have B2w3 := Aside0.mk (blk_below BKw2.out hb); have HBw3 := Aside0.mk (below_step HBw2.out hb); clear hg hb hbox) | ((with_reducible refine gate_dst (N := 4) rfl ?_); refine box_event ?hg (N := 4) ?hd (cs := #[.int .i64 0, .slice none 0 0]) (t := 35) ?hr ?_; (case hd => rfl); (case hg => rfl); (case hr => first | (go_simp; done) | (go_simp; rfl)); intro g4 hg w4 hbox hb; have BKw4 := Aside0.mk hbox; have GE4 := Aside0.mk ((by rw [hg]; exact below_size HBw3.out) : w.heap.size ≤ g4); have N34 := Aside0.mk ((by rw [hg]; exact Nat.ne_of_lt (blk_lt BKw3.out)) : g3 ≠ g4); have N24 := Aside0.mk ((by rw [hg]; exact Nat.ne_of_lt (blk_lt B2w3.out)) : g2 ≠ g4); have B2w4 := Aside0.mk (blk_below B2w3.out hb); have B3w4 := Aside0.mk (blk_below BKw3.out hb); have HBw4 := Aside0.mk (below_step HBw3.out hb); have hcz2_0 : w4.cell? ⟨g2, 0, none⟩ = some (.int .i64 a0_0) := (blk_cell B2w4.out 0).trans rfl; have hcz2_1 : w4.cell? ⟨g2, 1, none⟩ = some (.slice A0_1 l0_1.length c0_1) := (blk_cell B2w4.out 1).trans rfl; clear hg hb hbox) | ((with_reducible refine gate_callee (f := 42) rfl ?_); refine goesL_ (some 7) rfl rfl Tryd.func42 (by kernel_rfl) rfl #[.agg #[.int .i64 a0_0, .slice A0_1 l0_1.length c0_1]] rfl (by (try simp only [List.map_toArray, List.map_cons, List.map_nil]); first | done | rfl) ?_; (with_reducible refine (impl_copyTable.calls a0_0 _ _ l0_1 a0_0 l0_1 _ ?side1 ?side2 HCP.out).mono ?_); (case side1 => exact (Kd.C_below HR0_1.out HBw4.out)); (case side2 => exact HC0_1.out); rintro e w7 ⟨v7, rfl, ho, hb⟩; obtain ⟨A7, c7, ev⟩ := Kd.R_slice ho; subst ev; refine ⟨_, rfl, ?_⟩; have HO7 := Aside0.mk (Kd.R_lower ho (below_size HBw4.out)); have B2w7 := Aside0.mk (blk_below B2w4.out hb); have B3w7 := Aside0.mk (blk_below B3w4.out hb); have B4w7 := Aside0.mk (blk_below BKw4.out hb); have HBw7 := Aside0.mk (below_step HBw4.out hb); clear hb ho) | ((with_reducible refine gate_dst (N := 5) rfl ?_); refine box_event ?hg (N := 5) ?hd (cs := #[.int .i64 0, .slice none 0 0]) (t := 35) ?hr ?_; (case hd => rfl); (case hg => rfl); (case hr => first | (go_simp; done) | (go_simp; rfl)); intro g5 hg w8 hbox hb; have BKw8 := Aside0.mk hbox; have HO8 := Aside0.mk (Kd.R_below HO7.out hb); have B2w8 := Aside0.mk (blk_below B2w7.out hb); have B3w8 := Aside0.mk (blk_below B3w7.out hb); have B4w8 := Aside0.mk (blk_below B4w7.out hb); have GE5 := Aside0.mk ((by rw [hg]; exact below_size HBw7.out) : w.heap.size ≤ g5); have N25 := Aside0.mk ((by rw [hg]; exact Nat.ne_of_lt (blk_lt B2w7.out)) : g2 ≠ g5); have N35 := Aside0.mk ((by rw [hg]; exact Nat.ne_of_lt (blk_lt B3w7.out)) : g3 ≠ g5); have N45 := Aside0.mk ((by rw [hg]; exact Nat.ne_of_lt (blk_lt B4w7.out)) : g4 ≠ g5); have HBw8 := Aside0.mk (below_step HBw7.out hb); have hcz2d_0 : w8.cell? ⟨g2, 0, none⟩ = some (.int .i64 a0_0) := (blk_cell B2w8.out 0).trans rfl; have hcz2d_1 : w8.cell? ⟨g2, 1, none⟩ = some (.slice A0_1 l0_1.length c0_1) := (blk_cell B2w8.out 1).trans rfl; have hfz2d_0 := blk_frozen B2w8.out 0; have hfz2d_1 := blk_frozen B2w8.out 1; have hcz5d_0 : w8.cell? ⟨g5, 0, none⟩ = some (.int .i64 0) := (blk_cell BKw8.out 0).trans rfl; have hcz5d_1 : w8.cell? ⟨g5, 1, none⟩ = some (.slice none 0 0) := (blk_cell BKw8.out 1).trans rfl; have hfz5d_0 := blk_frozen BKw8.out 0; have hfz5d_1 := blk_frozen BKw8.out 1; have hnb25 := N25.out; have hnb52 := N25.out.symm; clear hg hb hbox) | ((with_reducible refine gate_callee (f := 26) rfl ?_); refine goesL_ (some 9) rfl rfl Tryd.func26 (by kernel_rfl) rfl #[.agg #[.int .i64 a0_0, .slice A0_1 l0_1.length c0_1]] rfl (by (try simp only [List.map_toArray, List.map_cons, List.map_nil]); first | done | rfl) ?_; (with_reducible refine (impl_TableOk.calls k a0_0 _ _ l0_1 true _ ?side1 ?side2 HTK.out).mono ?_); (case side1 => exact (Kd.C_below HR0_1.out (by repeat (first | (with_reducible first | exact HBw8.out | apply below_alloc | apply pw_below_drewN | apply below_drew1 | refine below_set ?_ GE5.out) | exact HBw8.out)))); (case side2 => exact HC0_1.out); rintro e w11 ⟨rfl, hb⟩; refine ⟨_, rfl, ?_⟩; have HO11 : Aside0 (Kd.R k23 23 w11 w.heap.size (fun _ => True) (.slice A7 l0_1.length c7) l0_1) := ⟨Kd.R_below (Kd.R_mono (ok := fun k_ => True ∧ k_ ≠ g5) (by (with_reducible repeat (first | apply Kd.R_drewN | apply Kd.R_drew | apply Kd.R_alloc | refine Kd.R_far (p := ⟨g5, 1, none⟩) ?_ (fun _ hk => hk.2) _ | refine Kd.R_far (p := ⟨g5, 0, none⟩) ?_ (fun _ hk => hk.2) _)); exact Kd.R_types (Kd.R_mono HO8.out (fun _ _ => trivial)) BKw8.out (by decide)) (fun _ _ => trivial)) hb⟩; have B3e := Aside0.mk (blk_below (g := g3) (o := .cells #[.string a1_0, .string a1_1] 23 (0, 0)) (by (with_reducible repeat (first | refine blk_drewN ?_ _ | refine blk_drew ?_ | refine blk_alloc ?_ _ | refine blk_far ?_ N35.out _)); exact B3w8.out) hb); have B4e := Aside0.mk (blk_below (g := g4) (o := .cells #[.int .i64 0, .slice none 0 0] 35 (0, 0)) (by (with_reducible repeat (first | refine blk_drewN ?_ _ | refine blk_drew ?_ | refine blk_alloc ?_ _ | refine blk_far ?_ N45.out _)); exact B4w8.out) hb); have B5e := Aside0.mk (blk_below (g := g5) (o := .cells #[.int .i64 a0_0, .slice A7 l0_1.length c7] 35 (0, 0)) (by (with_reducible repeat (first | refine blk_drewN ?_ _ | refine blk_drew ?_ | refine blk_alloc ?_ _)); refine blk_put (cs := #[.int .i64 a0_0, .slice none 0 0]) ?_ 1 _ rfl; (with_reducible repeat (first | refine blk_drewN ?_ _ | refine blk_drew ?_ | refine blk_alloc ?_ _)); refine blk_put (cs := #[.int .i64 0, .slice none 0 0]) ?_ 0 _ rfl; (with_reducible repeat (first | refine blk_drewN ?_ _ | refine blk_drew ?_ | refine blk_alloc ?_ _)); exact BKw8.out) hb); have HBw11 := Aside0.mk (below_step (by repeat (first | (with_reducible first | exact HBw8.out | apply below_alloc | apply pw_below_drewN | apply below_drew1 | refine below_set ?_ GE5.out) | exact HBw8.out)) hb); clear hb; have hcz3e_0 : w11.cell? ⟨g3, 0, none⟩ = some (.string a1_0) := (blk_cell B3e.out 0).trans rfl; have hcz3e_1 : w11.cell? ⟨g3, 1, none⟩ = some (.string a1_1) := (blk_cell B3e.out 1).trans rfl; have hfz3e_0 := blk_frozen B3e.out 0; have hfz3e_1 := blk_frozen B3e.out 1; have hcz4e_0 : w11.cell? ⟨g4, 0, none⟩ = some (.int .i64 0) := (blk_cell B4e.out 0).trans rfl; have hcz4e_1 : w11.cell? ⟨g4, 1, none⟩ = some (.slice none 0 0) := (blk_cell B4e.out 1).trans rfl; have hfz4e_0 := blk_frozen B4e.out 0; have hfz4e_1 := blk_frozen B4e.out 1; have hcz5e_0 : w11.cell? ⟨g5, 0, none⟩ = some (.int .i64 a0_0) := (blk_cell B5e.out 0).trans rfl; have hcz5e_1 : w11.cell? ⟨g5, 1, none⟩ = some (.slice A7 l0_1.length c7) := (blk_cell B5e.out 1).trans rfl; have hfz5e_0 := blk_frozen B5e.out 0; have hfz5e_1 := blk_frozen B5e.out 1) | ((with_reducible refine gate_callee (f := 43) rfl ?_); refine goesL_ (some 11) rfl rfl Tryd.func43 (by kernel_rfl) rfl #[.pointer (some ⟨g5, 0, none⟩), .agg #[.string a1_0, .string a1_1]] rfl (by (try simp only [List.map_toArray, List.map_cons, List.map_nil]); first | done | rfl) ?_; (with_reducible refine (impl_AddField.add g5 a0_0 A7 c7 l0_1 (⟨a1_0, a1_1⟩ : S23) w _ _ HBw11.out GE5.out B5e.out HO11.out HLL.out).mono ?_); rintro e w13 hp; obtain ⟨rfl, v13, h5, hR, hB, hK⟩ := hp; refine ⟨_, rfl, ?_⟩; obtain ⟨A13, c13, ev⟩ := Kd.R_slice hR; subst ev; have HO13 := Aside0.mk (Kd.R_mono (ok' := fun _ => True) hR (fun _ _ => trivial)); have B5f := Aside0.mk h5; have B4f := Aside0.mk (blk_kept B4e.out hK (fun hq => hq.elim N45.out (fun hq => Kd.R_ne HO11.out B4e.out (by decide) hq))); have HBw13 := Aside0.mk hB; clear h5 hR hB hK; have hcz4f_0 : w13.cell? ⟨g4, 0, none⟩ = some (.int .i64 0) := (blk_cell B4f.out 0).trans rfl; have hcz4f_1 : w13.cell? ⟨g4, 1, none⟩ = some (.slice none 0 0) := (blk_cell B4f.out 1).trans rfl; have hfz4f_0 := blk_frozen B4f.out 0; have hfz4f_1 := blk_frozen B4f.out 1; have hcz5f_0 : w13.cell? ⟨g5, 0, none⟩ = some (.int .i64 a0_0) := (blk_cell B5f.out 0).trans rfl; have hcz5f_1 : w13.cell? ⟨g5, 1, none⟩ = some (.slice A13 (impl_AddField.cut a0_0 ((⟨a1_0, a1_1⟩ : S23) :: l0_1)).length c13) := (blk_cell B5f.out 1).trans rfl; have hfz5f_0 := blk_frozen B5f.out 0; have hfz5f_1 := blk_frozen B5f.out 1))
   refine bodyPost_ret (results_cell_row rfl _ _ g4 35 #[.int .i64 a0_0, .slice A13 (impl_AddField.cut a0_0 ((⟨a1_0, a1_1⟩ : S23) :: l0_1)).length c13] (0, 0) _ rfl (by (with_reducible repeat (first | refine blk_drewN ?_ _ | refine blk_drew ?_ | refine blk_alloc ?_ _)); refine blk_put (cs := #[.int .i64 a0_0, .slice none 0 0]) ?_ 1 _ rfl; (with_reducible repeat (first | refine blk_drewN ?_ _ | refine blk_drew ?_ | refine blk_alloc ?_ _)); refine blk_put (cs := #[.int .i64 0, .slice none 0 0]) ?_ 0 _ rfl; (with_reducible repeat (first | refine blk_drewN ?_ _ | refine blk_drew ?_ | refine blk_alloc ?_ _)); exact B4f.out) Tryd.underlying35 rfl (by kernel_rfl)) rfl ?_
   exact ⟨_, rfl, (Kd.R_mono (ok := fun k_ => True ∧ k_ ≠ g4) (by (with_reducible repeat (first | apply Kd.R_drewN | apply Kd.R_drew | apply Kd.R_alloc | refine Kd.R_far (p := ⟨g4, 1, none⟩) ?_ (fun _ hk => hk.2) _ | refine Kd.R_far (p := ⟨g4, 0, none⟩) ?_ (fun _ hk => hk.2) _)); exact Kd.R_types (Kd.R_mono HO13.out (fun _ _ => trivial)) B4f.out (by decide)) (fun _ _ => trivial)), (by repeat (first | (with_reducible first | exact HBw13.out | apply below_alloc | apply pw_below_drewN | apply below_drew1 | refine below_set ?_ GE4.out) | exact HBw13.out))⟩
 ·
  rw [if_neg hl] at h
  cases h

end Go.Proofs.YtfcgadokmbooaaaDoor.A
