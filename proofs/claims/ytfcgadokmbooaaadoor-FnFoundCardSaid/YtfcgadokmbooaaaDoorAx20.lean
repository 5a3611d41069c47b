/- Written by a program of this session, out of the translation: functions as plain Lean functions, and that the machine's calls answer as they do. Condition: none beyond each theorem's own. -/
import Derived.Test.YtfcgadokmbooaaaDoorAx0
import Derived.Test.YtfcgadokmbooaaaDoorAx11
import Derived.Test.YtfcgadokmbooaaaDoorAx12
import Derived.Test.YtfcgadokmbooaaaDoorAx13
import Derived.Test.YtfcgadokmbooaaaDoorAx18
import Derived.Test.YtfcgadokmbooaaaDoorAx19
namespace Go.Proofs.YtfcgadokmbooaaaDoor.A
open Go.RowKit Go.Proofs.YtfcgadokmbooaaaDoorW.PrintWords Go.Proofs.YtfcgadokmbooaaaDoorW.PrintLast Go.Proofs.YtfcgadokmbooaaaDoorW.PrintMore
attribute [local go_sem] max2_int min2_int max_two min_two max_three min_three max_four min_four   -- for this text's walks alone
set_option linter.unusedVariables false
set_option linter.unusedSimpArgs false

/-! ### spec_DrawFindField: function 21 -/
def spec_DrawFindField.j0 : Nat → Bool → List Int → Int → Int → Int → List (S23) → Option (Int × (List (S23)) × ByteArray × ByteArray)
 | 0, _, _, _, _, _, _ => none
 | k + 1, x17, x274000, x274001, x274002, x281000, x281001 => if x17 = true then ((spec_l1Below.f x274000 x274001 x274002 (x281001.length : Int)).bind fun bt284 => (if 0 ≤ bt284.1 then (if bt284.1 < (x281001.length : Int) then (some (x281000, x281001, (rd_T23 x281001 bt284.1).f0, (rd_T23 x281001 bt284.1).f1)) else (none)) else (none))) else ((spec_l4Field.f x274000 x274001 x274002).bind fun bt288 => (some (x281000, x281001, bt288.1, bt288.2.1)))
def spec_DrawFindField.f (k : Nat) (l0 : List Int) : Option (Int × (List (S23)) × ByteArray × ByteArray) := (spec_l1New.f k l0).bind fun bt270 => ((spec_l4Any.f k bt270.1 bt270.2.1 bt270.2.2).bind fun bt274 => (if (bt274.2.1.length : Int) > 0 then ((spec_l1Once.f bt270.1 bt274.2.2.1 bt274.2.2.2 2).bind fun bt281 => (spec_DrawFindField.j0 k bt281.1 bt270.1 bt281.2.1 bt281.2.2 bt274.1 bt274.2.1)) else (spec_DrawFindField.j0 k false bt270.1 bt274.2.2.1 bt274.2.2.2 bt274.1 bt274.2.1)))
theorem spec_DrawFindField.mono_l : ∀ k, (∀ y0 y1 y2 y3 y4 y5, LeO (spec_DrawFindField.j0 k y0 y1 y2 y3 y4 y5) (spec_DrawFindField.j0 (k + 1) y0 y1 y2 y3 y4 y5))
 | 0 => fun _ _ _ _ _ _ r h => by simp [spec_DrawFindField.j0] at h
 | k + 1 => by
  have ih0 := spec_DrawFindField.mono_l k
  ·
   intro y0 y1 y2 y3 y4 y5
   unfold spec_DrawFindField.j0
   repeat' first
   | (with_reducible exact ih0 _ _ _ _ _ _)
   | (with_reducible exact spec_l1New.mono _ _)
   | (with_reducible exact spec_l4Any.mono _ _ _ _)
   | (with_reducible exact LeO.refl _)
   | (with_reducible exact LeO.none _)
   | (with_reducible refine LeO.ite ?_ ?_)
   | (with_reducible refine LeO.bind ?_ (fun _ => ?_))
   | exact ih0 _ _ _ _ _ _
   | exact spec_l1New.mono _ _
   | exact spec_l4Any.mono _ _ _ _
   | exact LeO.none _
   | refine LeO.ite ?_ ?_
   | refine LeO.bind ?_ (fun _ => ?_)
theorem spec_DrawFindField.mono : ∀ a0 k, LeO (spec_DrawFindField.f k a0) (spec_DrawFindField.f (k + 1) a0) := by
 intro a0 k
 have ih0 := spec_DrawFindField.mono_l k
 unfold spec_DrawFindField.f
 repeat' first
   | (with_reducible exact ih0 _ _ _ _ _ _)
   | (with_reducible exact spec_l1New.mono _ _)
   | (with_reducible exact spec_l4Any.mono _ _ _ _)
   | (with_reducible exact LeO.refl _)
   | (with_reducible exact LeO.none _)
   | (with_reducible refine LeO.ite ?_ ?_)
   | (with_reducible refine LeO.bind ?_ (fun _ => ?_))
   | exact ih0 _ _ _ _ _ _
   | exact spec_l1New.mono _ _
   | exact spec_l4Any.mono _ _ _ _
   | exact LeO.none _
   | refine LeO.ite ?_ ?_
   | refine LeO.bind ?_ (fun _ => ?_)
def spec_DrawFindField.T4 : Bool × List (List Nat × List Nat) := (true, [([], []), ([], []), ([1], [1]), ([], []), ([], []), ([4], [4]), ([5], [5]), ([3, 6], [3, 6]), ([2, 7], [2, 7]), ([8], [8]), ([0, 7, 0], [0]), ([9, 10, 0, 1, 2, 3, 4, 5, 6, 7, 8, 9, 10], [9])])
def spec_DrawFindField.B4 : List Nat := [0, 0, 2, 0, 0, 16, 48, 120, 254, 510, 249, 2047]
theorem spec_DrawFindField.tab4 : rtab .any (opsOf Tryd.f21 4) = spec_DrawFindField.T4 := by kernel_rfl
theorem spec_DrawFindField.bits4 : waitsOk spec_DrawFindField.T4.2 spec_DrawFindField.B4 = true := by kernel_rfl
set_option maxHeartbeats 8000000 in
set_option maxRecDepth 100000 in
theorem spec_DrawFindField.calls (k : Nat) (A0 : Option Addr) (c0 : Nat) (l0 : List Int) (r1 : Int) (r2 : List (S23)) (r3 : ByteArray) (r4 : ByteArray) (w : World) (hr0 : Kd.C (Kd.int .u8) w A0 l0.length l0) (hc0 : l0.length ≤ c0) (h : spec_DrawFindField.f k l0 = some (r1, r2, r3, r4)) :
  Calls Tryd.prog 21 #[.slice A0 l0.length c0] w fun e w' => ∃ v1_ : Value, e = .returned (.tuple #[.agg #[.int .i64 r1, v1_], .agg #[.string r3, .string r4]]) ∧ Kd.R k23 23 w' w.heap.size (fun _ => True) v1_ r2 ∧ Below w.heap.size w w' := by
 have hu35 := Tryd.underlying35
 have hu23 := Tryd.underlying23
 have HR0 := Aside0.mk hr0
 have HC0 := Aside0.mk hc0
 clear hr0 hc0
 have HB := Aside0.mk (Below.refl w.heap.size w)
 have H : ((spec_l1New.f k l0).bind fun bt270 => ((spec_l4Any.f k bt270.1 bt270.2.1 bt270.2.2).bind fun bt274 => (if (bt274.2.1.length : Int) > 0 then ((spec_l1Once.f bt270.1 bt274.2.2.1 bt274.2.2.2 2).bind fun bt281 => (spec_DrawFindField.j0 k bt281.1 bt270.1 bt281.2.1 bt281.2.2 bt274.1 bt274.2.1)) else (spec_DrawFindField.j0 k false bt270.1 bt274.2.2.1 bt274.2.2.2 bt274.1 bt274.2.1)))) = some (r1, r2, r3, r4) := h
 clear h
 replace H := Option.bind_eq_some_iff.mp H
 obtain ⟨⟨t270, t271, t272⟩, A20, H⟩ := H
 replace H : ((spec_l4Any.f k t270 t271 t272).bind fun bt274 => (if (bt274.2.1.length : Int) > 0 then ((spec_l1Once.f t270 bt274.2.2.1 bt274.2.2.2 2).bind fun bt281 => (spec_DrawFindField.j0 k bt281.1 t270 bt281.2.1 bt281.2.2 bt274.1 bt274.2.1)) else (spec_DrawFindField.j0 k false t270 bt274.2.2.1 bt274.2.2.2 bt274.1 bt274.2.1))) = some (r1, r2, r3, r4) := H
 have A2 := Aside0.mk A20
 clear A20
 replace H := Option.bind_eq_some_iff.mp H
 obtain ⟨⟨t274, t275, t278, t279⟩, A30, H⟩ := H
 replace H : (if (t275.length : Int) > 0 then ((spec_l1Once.f t270 t278 t279 2).bind fun bt281 => (spec_DrawFindField.j0 k bt281.1 t270 bt281.2.1 bt281.2.2 t274 t275)) else (spec_DrawFindField.j0 k false t270 t278 t279 t274 t275)) = some (r1, r2, r3, r4) := H
 have A3 := Aside0.mk A30
 clear A30
 have HC4 := Aside0.mk H
 clear H
 go_enter Tryd.func21, Tryd.ntmps21
 go_upto_region 3 with (first | ((with_reducible refine gate_dst (N := 2) rfl ?_); refine box_event ?hg (N := 2) ?hd (cs := #[.int .i64 0, .slice none 0 0]) (t := 35) ?hr ?_; (case hd => rfl); (case hg => rfl); (case hr => first | (go_simp; done) | (go_simp; rfl)); intro gb268 hg w5 hbox hb; have n0_ := Aside0.mk (below_step (by repeat (first | (with_reducible first | exact HB.out | apply below_alloc | apply pw_below_drewN | apply below_drew1) | exact HB.out)) hb); have n1_ := Aside0.mk (hbox); have n2_ := Aside0.mk ((by rw [hg]; exact (below_size (by repeat (first | (with_reducible first | exact HB.out | apply below_alloc | apply pw_below_drewN | apply below_drew1) | exact HB.out))) : w.heap.size ≤ gb268)); have n3_ := Aside0.mk ((by rw [hg]; exact (below_size (by repeat (first | (with_reducible first | exact HB.out | apply below_alloc | apply pw_below_drewN | apply below_drew1) | exact HB.out))) : w.heap.size ≤ gb268)); clear HB; have HB := n0_; have BK268 := n1_; have GW268 := n2_; have GE268 := n3_; clear n0_ n1_ n2_ n3_; clear hb hbox hg) | ((with_reducible refine gate_dst (N := 3) rfl ?_); refine box_event ?hg (N := 3) ?hd (cs := #[.string (⟨#[]⟩ : ByteArray), .string (⟨#[]⟩ : ByteArray)]) (t := 23) ?hr ?_; (case hd => rfl); (case hg => rfl); (case hr => first | (go_simp; done) | (go_simp; rfl)); intro gb269 hg w6 hbox hb; have n0_ := Aside0.mk (blk_below (g := gb268) (o := .cells #[.int .i64 0, .slice none 0 0] 35 (0, 0)) (by (with_reducible repeat (first | refine blk_drewN ?_ _ | refine blk_drew ?_ | refine blk_alloc ?_ _)); exact BK268.out) hb); have n1_ := Aside0.mk (below_step (by repeat (first | (with_reducible first | exact HB.out | apply below_alloc | apply pw_below_drewN | apply below_drew1 | refine below_set ?_ GE268.out) | exact HB.out)) hb); have n2_ := Aside0.mk (hbox); have n3_ := Aside0.mk ((by rw [hg]; exact (below_size (by repeat (first | (with_reducible first | exact HB.out | apply below_alloc | apply pw_below_drewN | apply below_drew1 | refine below_set ?_ GE268.out) | exact HB.out))) : w.heap.size ≤ gb269)); have n4_ := Aside0.mk ((by rw [hg]; exact (below_size (by repeat (first | (with_reducible first | exact HB.out | apply below_alloc | apply pw_below_drewN | apply below_drew1 | refine below_set ?_ GE268.out) | exact HB.out))) : w.heap.size ≤ gb269)); have n5_ := Aside0.mk ((by rw [hg]; exact Nat.ne_of_lt (blk_lt (g := gb268) (o := .cells #[.int .i64 0, .slice none 0 0] 35 (0, 0)) (by (with_reducible repeat (first | refine blk_drewN ?_ _ | refine blk_drew ?_ | refine blk_alloc ?_ _)); exact BK268.out)) : gb268 ≠ gb269)); have n6_ := Aside0.mk ((by rw [hg]; exact Nat.ne_of_gt (blk_lt (g := gb268) (o := .cells #[.int .i64 0, .slice none 0 0] 35 (0, 0)) (by (with_reducible repeat (first | refine blk_drewN ?_ _ | refine blk_drew ?_ | refine blk_alloc ?_ _)); exact BK268.out)) : gb269 ≠ gb268)); clear BK268; clear HB; have BK268 := n0_; have HB := n1_; have BK269 := n2_; have GW269 := n3_; have GE269 := n4_; have NB268_269 := n5_; have NB269_268 := n6_; clear n0_ n1_ n2_ n3_ n4_ n5_ n6_; clear hb hbox hg) | ((with_reducible refine gate_callee (f := 37) rfl ?_); refine goesL_ (some 7) rfl rfl Tryd.func37 (by kernel_rfl) rfl #[.slice A0 l0.length c0] rfl (by (try simp only [List.map_toArray, List.map_cons, List.map_nil]); first | done | rfl | (simp only [List.length_drop, List.length_take]; rfl)) ?_; (with_reducible refine (spec_l1New.calls k _ _ l0 t270 t271 t272 w _ ?side1 ?side2 ?side3 A2.out).mono ?_); (case side1 => repeat (first | (with_reducible first | exact HB.out | apply below_alloc | apply pw_below_drewN | apply below_drew1 | refine below_set ?_ GE268.out | refine below_set ?_ GE269.out) | exact HB.out)); (case side2 => exact HR0.out); (case side3 => exact HC0.out); rintro e w7 ⟨g273, rfl, hi, hb, hb2⟩; refine ⟨_, rfl, ?_⟩; have n0_ := Aside0.mk (blk_below (g := gb268) (o := .cells #[.int .i64 0, .slice none 0 0] 35 (0, 0)) (by (with_reducible repeat (first | refine blk_drewN ?_ _ | refine blk_drew ?_ | refine blk_alloc ?_ _)); exact BK268.out) hb2); have n1_ := Aside0.mk (blk_below (g := gb269) (o := .cells #[.string (⟨#[]⟩ : ByteArray), .string (⟨#[]⟩ : ByteArray)] 23 (0, 0)) (by (with_reducible repeat (first | refine blk_drewN ?_ _ | refine blk_drew ?_ | refine blk_alloc ?_ _)); exact BK269.out) hb2); have n2_ := Aside0.mk (hb); have n3_ := Aside0.mk (hi); have n4_ := Aside0.mk (IsS75.ne_blk hi (blk_below (g := gb268) (o := .cells #[.int .i64 0, .slice none 0 0] 35 (0, 0)) (by (with_reducible repeat (first | refine blk_drewN ?_ _ | refine blk_drew ?_ | refine blk_alloc ?_ _)); exact BK268.out) hb2) (by decide)); have n5_ := Aside0.mk (Ne.symm (IsS75.ne_blk hi (blk_below (g := gb268) (o := .cells #[.int .i64 0, .slice none 0 0] 35 (0, 0)) (by (with_reducible repeat (first | refine blk_drewN ?_ _ | refine blk_drew ?_ | refine blk_alloc ?_ _)); exact BK268.out) hb2) (by decide))); have n6_ := Aside0.mk (IsS75.ne_blk hi (blk_below (g := gb269) (o := .cells #[.string (⟨#[]⟩ : ByteArray), .string (⟨#[]⟩ : ByteArray)] 23 (0, 0)) (by (with_reducible repeat (first | refine blk_drewN ?_ _ | refine blk_drew ?_ | refine blk_alloc ?_ _)); exact BK269.out) hb2) (by decide)); have n7_ := Aside0.mk (Ne.symm (IsS75.ne_blk hi (blk_below (g := gb269) (o := .cells #[.string (⟨#[]⟩ : ByteArray), .string (⟨#[]⟩ : ByteArray)] 23 (0, 0)) (by (with_reducible repeat (first | refine blk_drewN ?_ _ | refine blk_drew ?_ | refine blk_alloc ?_ _)); exact BK269.out) hb2) (by decide))); clear BK268; clear BK269; clear HB; have BK268 := n0_; have BK269 := n1_; have HB := n2_; have HI273 := n3_; have NB273_268 := n4_; have NB268_273 := n5_; have NB273_269 := n6_; have NB269_273 := n7_; clear n0_ n1_ n2_ n3_ n4_ n5_ n6_ n7_; (try clear hb); (try clear hb2); (try clear hk); (try clear hi)) | ((with_reducible refine gate_callee (f := 38) rfl ?_); refine goesL_ (some 9) rfl rfl Tryd.func38 (by kernel_rfl) rfl #[.pointer (some ⟨g273, 0, none⟩)] rfl (by (try simp only [List.map_toArray, List.map_cons, List.map_nil]); first | done | rfl | (simp only [List.length_drop, List.length_take]; rfl)) ?_; (with_reducible refine (spec_l4Any.calls k g273 t270 t271 t272 t274 t275 t278 t279 w _ ?side1 ?side2 A3.out).mono ?_); (case side1 => repeat (first | (with_reducible first | exact HI273.out | apply IsS75.alloc | apply IsS75.drewN | apply IsS75.drew | apply IsS75.set_1 | apply IsS75.set_2 | refine IsS75.far ?_ NB273_268.out _ | refine IsS75.far ?_ NB273_269.out _) | exact HI273.out)); (case side2 => repeat (first | (with_reducible first | exact HB.out | apply below_alloc | apply pw_below_drewN | apply below_drew1 | refine below_set ?_ (IsS75.ge HI273.out) | refine below_set ?_ GE268.out | refine below_set ?_ GE269.out) | exact HB.out)); rintro e w8 ⟨v276, rfl, ho0, hi, hb, hk⟩; refine ⟨_, rfl, ?_⟩; have n0_ := Aside0.mk (KeepBut.blk hk (g' := gb268) (o := .cells #[.int .i64 0, .slice none 0 0] 35 (0, 0)) (by (with_reducible repeat (first | refine blk_drewN ?_ _ | refine blk_drew ?_ | refine blk_alloc ?_ _)); exact BK268.out) NB268_273.out (by simp)); have n1_ := Aside0.mk (KeepBut.blk hk (g' := gb269) (o := .cells #[.string (⟨#[]⟩ : ByteArray), .string (⟨#[]⟩ : ByteArray)] 23 (0, 0)) (by (with_reducible repeat (first | refine blk_drewN ?_ _ | refine blk_drew ?_ | refine blk_alloc ?_ _)); exact BK269.out) NB269_273.out (by simp)); have n2_ := Aside0.mk (Kd.R_lower (Kd.R_newB ho0 (g := gb269) (o := .cells #[.string (⟨#[]⟩ : ByteArray), .string (⟨#[]⟩ : ByteArray)] 23 (0, 0)) (by (with_reducible repeat (first | refine blk_drewN ?_ _ | refine blk_drew ?_ | refine blk_alloc ?_ _)); exact BK269.out)) (below_size (by repeat (first | (with_reducible first | exact HB.out | apply below_alloc | apply pw_below_drewN | apply below_drew1 | refine below_set ?_ (IsS75.ge HI273.out) | refine below_set ?_ GE268.out | refine below_set ?_ GE269.out) | exact HB.out)))); have n3_ := Aside0.mk (hb); have n4_ := Aside0.mk (hi); clear BK268; clear BK269; clear HB; clear HI273; have BK268 := n0_; have BK269 := n1_; have HO277 := n2_; have HB := n3_; have HI273 := n4_; clear n0_ n1_ n2_ n3_ n4_; (try clear hb); (try clear hb2); (try clear hk); (try clear hi); (try clear ho0)) | ((with_reducible refine gate_dst (N := 5) rfl ?_); refine box_event ?hg (N := 5) ?hd (cs := #[.int .i64 0, .slice none 0 0]) (t := 35) ?hr ?_; (case hd => rfl); (case hg => rfl); (case hr => first | (go_simp; done) | (go_simp; rfl)); intro gb280 hg w9 hbox hb; have n0_ := Aside0.mk (Kd.R_below (by (with_reducible repeat (first | apply Kd.R_alloc | apply Kd.R_drewN | apply Kd.R_drew)); exact HO277.out) hb); have n1_ := Aside0.mk (blk_below (g := gb268) (o := .cells #[.int .i64 0, .slice none 0 0] 35 (0, 0)) (by (with_reducible repeat (first | refine blk_drewN ?_ _ | refine blk_drew ?_ | refine blk_alloc ?_ _)); exact BK268.out) hb); have n2_ := Aside0.mk (blk_below (g := gb269) (o := .cells #[.string (⟨#[]⟩ : ByteArray), .string (⟨#[]⟩ : ByteArray)] 23 (0, 0)) (by (with_reducible repeat (first | refine blk_drewN ?_ _ | refine blk_drew ?_ | refine blk_alloc ?_ _)); exact BK269.out) hb); have n3_ := Aside0.mk (IsS75.below (by repeat (first | (with_reducible first | exact HI273.out | apply IsS75.alloc | apply IsS75.drewN | apply IsS75.drew | apply IsS75.set_1 | apply IsS75.set_2 | refine IsS75.far ?_ NB273_268.out _ | refine IsS75.far ?_ NB273_269.out _) | exact HI273.out)) hb); have n4_ := Aside0.mk (below_step (by repeat (first | (with_reducible first | exact HB.out | apply below_alloc | apply pw_below_drewN | apply below_drew1 | refine below_set ?_ (IsS75.ge HI273.out) | refine below_set ?_ GE268.out | refine below_set ?_ GE269.out) | exact HB.out)) hb); have n5_ := Aside0.mk (hbox); have n6_ := Aside0.mk ((by rw [hg]; exact (below_size (by repeat (first | (with_reducible first | exact HB.out | apply below_alloc | apply pw_below_drewN | apply below_drew1 | refine below_set ?_ (IsS75.ge HI273.out) | refine below_set ?_ GE268.out | refine below_set ?_ GE269.out) | exact HB.out))) : w.heap.size ≤ gb280)); have n7_ := Aside0.mk ((by rw [hg]; exact (below_size (by repeat (first | (with_reducible first | exact HB.out | apply below_alloc | apply pw_below_drewN | apply below_drew1 | refine below_set ?_ (IsS75.ge HI273.out) | refine below_set ?_ GE268.out | refine below_set ?_ GE269.out) | exact HB.out))) : w.heap.size ≤ gb280)); have n8_ := Aside0.mk ((by rw [hg]; exact Nat.ne_of_lt (blk_lt (g := gb268) (o := .cells #[.int .i64 0, .slice none 0 0] 35 (0, 0)) (by (with_reducible repeat (first | refine blk_drewN ?_ _ | refine blk_drew ?_ | refine blk_alloc ?_ _)); exact BK268.out)) : gb268 ≠ gb280)); have n9_ := Aside0.mk ((by rw [hg]; exact Nat.ne_of_gt (blk_lt (g := gb268) (o := .cells #[.int .i64 0, .slice none 0 0] 35 (0, 0)) (by (with_reducible repeat (first | refine blk_drewN ?_ _ | refine blk_drew ?_ | refine blk_alloc ?_ _)); exact BK268.out)) : gb280 ≠ gb268)); have n10_ := Aside0.mk ((by rw [hg]; exact Nat.ne_of_lt (blk_lt (g := gb269) (o := .cells #[.string (⟨#[]⟩ : ByteArray), .string (⟨#[]⟩ : ByteArray)] 23 (0, 0)) (by (with_reducible repeat (first | refine blk_drewN ?_ _ | refine blk_drew ?_ | refine blk_alloc ?_ _)); exact BK269.out)) : gb269 ≠ gb280)); have n11_ := Aside0.mk ((by rw [hg]; exact Nat.ne_of_gt (blk_lt (g := gb269) (o := .cells #[.string (⟨#[]⟩ : ByteArray), .string (⟨#[]⟩ : ByteArray)] 23 (0, 0)) (by (with_reducible repeat (first | refine blk_drewN ?_ _ | refine blk_drew ?_ | refine blk_alloc ?_ _)); exact BK269.out)) : gb280 ≠ gb269)); have n12_ := Aside0.mk ((by rw [hg]; exact Nat.ne_of_lt (IsS75.lt (show IsS75 w _ g273 t270 t278 t279 from by repeat (first | (with_reducible first | exact HI273.out | apply IsS75.alloc | apply IsS75.drewN | apply IsS75.drew | apply IsS75.set_1 | apply IsS75.set_2 | refine IsS75.far ?_ NB273_268.out _ | refine IsS75.far ?_ NB273_269.out _) | exact HI273.out))) : g273 ≠ gb280)); have n13_ := Aside0.mk ((by rw [hg]; exact Nat.ne_of_gt (IsS75.lt (show IsS75 w _ g273 t270 t278 t279 from by repeat (first | (with_reducible first | exact HI273.out | apply IsS75.alloc | apply IsS75.drewN | apply IsS75.drew | apply IsS75.set_1 | apply IsS75.set_2 | refine IsS75.far ?_ NB273_268.out _ | refine IsS75.far ?_ NB273_269.out _) | exact HI273.out))) : gb280 ≠ g273)); clear HO277; clear BK268; clear BK269; clear HI273; clear HB; have HO277 := n0_; have BK268 := n1_; have BK269 := n2_; have HI273 := n3_; have HB := n4_; have BK280 := n5_; have GW280 := n6_; have GE280 := n7_; have NB268_280 := n8_; have NB280_268 := n9_; have NB269_280 := n10_; have NB280_269 := n11_; have NB273_280 := n12_; have NB280_273 := n13_; clear n0_ n1_ n2_ n3_ n4_ n5_ n6_ n7_ n8_ n9_ n10_ n11_ n12_ n13_; clear hb hbox hg; have hnb10 := NB280_268.out; have hnc10 := NB268_280.out; have hnb11 := NB280_269.out; have hnc11 := NB269_280.out; have hnb12 := NB280_273.out; have hnc12 := NB273_280.out; have hcz13_0 : w9.cell? ⟨gb280, 0, none⟩ = some (.int .i64 0) := (blk_cell BK280.out 0).trans rfl; have hcz13_1 : w9.cell? ⟨gb280, 1, none⟩ = some (.slice none 0 0) := (blk_cell BK280.out 1).trans rfl; have hfz13_0 := blk_frozen BK280.out 0; have hfz13_1 := blk_frozen BK280.out 1; obtain ⟨Ao14, co14, eo14⟩ := Kd.R_slice HO277.out; subst eo14))
 (try simp only [Act.put, List.setIfInBounds_toArray, List.set_cons_zero, List.set_cons_succ])
 go_cut [17] (fun v17 wc => ∃ (kq : Nat) (x17_3 : Bool) (x274001_3 : Int) (x274002_3 : Int), v17 = .bool x17_3 ∧ Aside0 (spec_DrawFindField.j0 kq x17_3 t270 x274001_3 x274002_3 t274 t275 = some (r1, r2, r3, r4)) ∧ Aside0 (kq ≤ k) ∧ Aside0 (Kd.R k23 23 wc w.heap.size (fun k_ => k_ ≠ gb269) (.slice Ao14 t275.length co14) t275) ∧ Aside0 (wc.heap[gb268]? = some (.cells #[.int .i64 0, (.slice none 0 0)] 35 (0, 0))) ∧ Aside0 (wc.heap[gb269]? = some (.cells #[.string (⟨#[]⟩ : ByteArray), .string (⟨#[]⟩ : ByteArray)] 23 (0, 0))) ∧ Aside0 (wc.heap[gb280]? = some (.cells #[.int .i64 t274, (.slice Ao14 t275.length co14)] 35 (0, 0))) ∧ Aside0 (IsS75 w wc g273 t270 x274001_3 x274002_3) ∧ Aside0 (Below w.heap.size w wc))
 case first =>
  have H := HC4.out
  clear HC4
  by_cases c15 : (t275.length : Int) > 0
  ·
   rw [if_pos c15] at H
   have c15b0 : decide (0 < (t275.length : Int)) = true := decide_eq_true c15
   have c15b1 : decide (0 < t275.length) = true := decide_eq_true (by omega)
   clear c15
   (first | rw [c15b0] | (simp only [i64_w, i32_w]; rw [c15b0]) | rw [c15b1] | skip)
   replace H := Option.bind_eq_some_iff.mp H
   obtain ⟨⟨t281, t282, t283⟩, A160, H⟩ := H
   replace H : (spec_DrawFindField.j0 k t281 t270 t282 t283 t274 t275) = some (r1, r2, r3, r4) := H
   have A16 := Aside0.mk A160
   clear A160
   have H' := Aside0.mk H
   clear H
   have hnb17 := NB280_268.out
   have hnc17 := NB268_280.out
   have hnb18 := NB280_269.out
   have hnc18 := NB269_280.out
   have hnb19 := NB280_273.out
   have hnc19 := NB273_280.out
   have hcz20_0 : w9.cell? ⟨gb280, 0, none⟩ = some (.int .i64 0) := (blk_cell BK280.out 0).trans rfl
   have hcz20_1 : w9.cell? ⟨gb280, 1, none⟩ = some (.slice none 0 0) := (blk_cell BK280.out 1).trans rfl
   have hfz20_0 := blk_frozen BK280.out 0
   have hfz20_1 := blk_frozen BK280.out 1
   go_wp2_with (first | (go_at_call 39; (with_reducible refine (spec_l1Once.calls g273 t270 t278 t279 2 t281 t282 t283 w _ ?side1 ?side2 A16.out).mono ?_); (case side1 => repeat (first | (with_reducible first | exact HI273.out | apply IsS75.alloc | apply IsS75.drewN | apply IsS75.drew | apply IsS75.set_1 | apply IsS75.set_2 | refine IsS75.far ?_ NB273_268.out _ | refine IsS75.far ?_ NB273_269.out _ | refine IsS75.far ?_ NB273_280.out _) | exact HI273.out)); (case side2 => repeat (first | (with_reducible first | exact HB.out | apply below_alloc | apply pw_below_drewN | apply below_drew1 | refine below_set ?_ (IsS75.ge HI273.out) | refine below_set ?_ GE268.out | refine below_set ?_ GE269.out | refine below_set ?_ GE280.out) | exact HB.out)); rintro e w21 ⟨rfl, hi, hb, hk⟩; have n0_ := Aside0.mk (KeepBut.blk hk (g' := gb268) (o := .cells #[.int .i64 0, .slice none 0 0] 35 (0, 0)) (by (with_reducible repeat (first | refine blk_drewN ?_ _ | refine blk_drew ?_ | refine blk_alloc ?_ _)); refine blk_far ?_ NB268_280.out _; (with_reducible repeat (first | refine blk_drewN ?_ _ | refine blk_drew ?_ | refine blk_alloc ?_ _)); refine blk_far ?_ NB268_280.out _; (with_reducible repeat (first | refine blk_drewN ?_ _ | refine blk_drew ?_ | refine blk_alloc ?_ _)); exact BK268.out) NB268_273.out (by simp)); have n1_ := Aside0.mk (KeepBut.blk hk (g' := gb269) (o := .cells #[.string (⟨#[]⟩ : ByteArray), .string (⟨#[]⟩ : ByteArray)] 23 (0, 0)) (by (with_reducible repeat (first | refine blk_drewN ?_ _ | refine blk_drew ?_ | refine blk_alloc ?_ _)); refine blk_far ?_ NB269_280.out _; (with_reducible repeat (first | refine blk_drewN ?_ _ | refine blk_drew ?_ | refine blk_alloc ?_ _)); refine blk_far ?_ NB269_280.out _; (with_reducible repeat (first | refine blk_drewN ?_ _ | refine blk_drew ?_ | refine blk_alloc ?_ _)); exact BK269.out) NB269_273.out (by simp)); have n2_ := Aside0.mk (Kd.R_mono (Kd.R_keep (IsS75.apart (show IsS75 w _ g273 t270 t278 t279 from by repeat (first | (with_reducible first | exact HI273.out | apply IsS75.alloc | apply IsS75.drewN | apply IsS75.drew | apply IsS75.set_1 | apply IsS75.set_2 | refine IsS75.far ?_ NB273_268.out _ | refine IsS75.far ?_ NB273_269.out _ | refine IsS75.far ?_ NB273_280.out _) | exact HI273.out)) (by (with_reducible repeat (first | apply Kd.R_alloc | apply Kd.R_drewN | apply Kd.R_drew)); exact (Kd.R_mono (Kd.R_far (p := ⟨gb280, 1, none⟩) (Kd.R_far (p := ⟨gb280, 0, none⟩) (Kd.R_types HO277.out BK280.out (by decide)) (fun _ hk => hk.2) (.int .i64 t274)) (fun _ hk => hk.2) (.slice Ao14 t275.length co14)) (fun _ h_ => h_.1))) (by decide)) hk (fun _ h => h.2)) (fun _ h => h.1)); have n3_ := Aside0.mk (KeepBut.blk hk (g' := gb280) (o := .cells #[.int .i64 t274, .slice Ao14 t275.length co14] 35 (0, 0)) (by (with_reducible repeat (first | refine blk_drewN ?_ _ | refine blk_drew ?_ | refine blk_alloc ?_ _)); refine blk_put (cs := #[.int .i64 t274, .slice none 0 0]) ?_ 1 _ rfl; (with_reducible repeat (first | refine blk_drewN ?_ _ | refine blk_drew ?_ | refine blk_alloc ?_ _)); refine blk_put (cs := #[.int .i64 0, .slice none 0 0]) ?_ 0 _ rfl; (with_reducible repeat (first | refine blk_drewN ?_ _ | refine blk_drew ?_ | refine blk_alloc ?_ _)); exact BK280.out) NB280_273.out (by simp)); have n4_ := Aside0.mk (hb); have n5_ := Aside0.mk (hi); clear BK268; clear BK269; clear HO277; clear BK280; clear HB; clear HI273; have BK268 := n0_; have BK269 := n1_; have HO277 := n2_; have BK280 := n3_; have HB := n4_; have HI273 := n5_; clear n0_ n1_ n2_ n3_ n4_ n5_; (try clear hb); (try clear hb2); (try clear hk); (try clear hi)))
   go_meet
   case rel => exact ⟨_, (t281), (t282), (t283), (by first | rfl | (simp; done) | (simp [*]; done)), H', ⟨by first | omega | exact Nat.le_refl _⟩, ⟨by (with_reducible repeat (first | apply Kd.R_alloc | apply Kd.R_drewN | apply Kd.R_drew)); exact Kd.R_mono HO277.out (fun _ hk => (by first | exact hk.2 | (have hq_ := hk; simp only [ne_eq] at hq_ ⊢; simp only [hq_, not_false_eq_true, and_self])))⟩, ⟨by (with_reducible repeat (first | refine blk_drewN ?_ _ | refine blk_drew ?_ | refine blk_alloc ?_ _)); exact BK268.out⟩, ⟨by (with_reducible repeat (first | refine blk_drewN ?_ _ | refine blk_drew ?_ | refine blk_alloc ?_ _)); exact BK269.out⟩, ⟨by (with_reducible repeat (first | refine blk_drewN ?_ _ | refine blk_drew ?_ | refine blk_alloc ?_ _)); exact BK280.out⟩, ⟨by repeat (first | (with_reducible first | exact HI273.out | apply IsS75.alloc | apply IsS75.drewN | apply IsS75.drew | apply IsS75.set_1 | apply IsS75.set_2 | refine IsS75.far ?_ NB273_268.out _ | refine IsS75.far ?_ NB273_269.out _ | refine IsS75.far ?_ NB273_280.out _) | exact HI273.out)⟩, ⟨by repeat (first | (with_reducible first | exact HB.out | apply below_alloc | apply pw_below_drewN | apply below_drew1 | refine below_set ?_ (IsS75.ge HI273.out) | refine below_set ?_ GE268.out | refine below_set ?_ GE269.out | refine below_set ?_ GE280.out) | exact HB.out)⟩⟩
  ·
   rw [if_neg c15] at H
   have c15b0 : decide (0 < (t275.length : Int)) = false := decide_eq_false c15
   have c15b1 : decide (0 < t275.length) = false := decide_eq_false (by omega)
   clear c15
   (first | rw [c15b0] | (simp only [i64_w, i32_w]; rw [c15b0]) | rw [c15b1] | skip)
   have H' := Aside0.mk H
   clear H
   have hnb22 := NB280_268.out
   have hnc22 := NB268_280.out
   have hnb23 := NB280_269.out
   have hnc23 := NB269_280.out
   have hnb24 := NB280_273.out
   have hnc24 := NB273_280.out
   have hcz25_0 : w9.cell? ⟨gb280, 0, none⟩ = some (.int .i64 0) := (blk_cell BK280.out 0).trans rfl
   have hcz25_1 : w9.cell? ⟨gb280, 1, none⟩ = some (.slice none 0 0) := (blk_cell BK280.out 1).trans rfl
   have hfz25_0 := blk_frozen BK280.out 0
   have hfz25_1 := blk_frozen BK280.out 1
   go_wp2
   go_meet
   case rel => exact ⟨_, (false), (t278), (t279), (by first | rfl | (simp; done) | (simp [*]; done)), H', ⟨by first | omega | exact Nat.le_refl _⟩, ⟨by (with_reducible repeat (first | apply Kd.R_alloc | apply Kd.R_drewN | apply Kd.R_drew)); exact Kd.R_mono (Kd.R_far (p := ⟨gb280, 1, none⟩) (Kd.R_far (p := ⟨gb280, 0, none⟩) (Kd.R_types HO277.out BK280.out (by decide)) (fun _ hk => hk.2) (.int .i64 t274)) (fun _ hk => hk.2) (.slice Ao14 t275.length co14)) (fun _ hk => (by first | exact hk.1.2 | (have hq_ := hk; simp only [ne_eq] at hq_ ⊢; simp only [hq_, not_false_eq_true, and_self])))⟩, ⟨by (with_reducible repeat (first | refine blk_drewN ?_ _ | refine blk_drew ?_ | refine blk_alloc ?_ _)); refine blk_far ?_ NB268_280.out _; (with_reducible repeat (first | refine blk_drewN ?_ _ | refine blk_drew ?_ | refine blk_alloc ?_ _)); refine blk_far ?_ NB268_280.out _; (with_reducible repeat (first | refine blk_drewN ?_ _ | refine blk_drew ?_ | refine blk_alloc ?_ _)); exact BK268.out⟩, ⟨by (with_reducible repeat (first | refine blk_drewN ?_ _ | refine blk_drew ?_ | refine blk_alloc ?_ _)); refine blk_far ?_ NB269_280.out _; (with_reducible repeat (first | refine blk_drewN ?_ _ | refine blk_drew ?_ | refine blk_alloc ?_ _)); refine blk_far ?_ NB269_280.out _; (with_reducible repeat (first | refine blk_drewN ?_ _ | refine blk_drew ?_ | refine blk_alloc ?_ _)); exact BK269.out⟩, ⟨by (with_reducible repeat (first | refine blk_drewN ?_ _ | refine blk_drew ?_ | refine blk_alloc ?_ _)); refine blk_put (cs := #[.int .i64 t274, .slice none 0 0]) ?_ 1 _ rfl; (with_reducible repeat (first | refine blk_drewN ?_ _ | refine blk_drew ?_ | refine blk_alloc ?_ _)); refine blk_put (cs := #[.int .i64 0, .slice none 0 0]) ?_ 0 _ rfl; (with_reducible repeat (first | refine blk_drewN ?_ _ | refine blk_drew ?_ | refine blk_alloc ?_ _)); exact BK280.out⟩, ⟨by repeat (first | (with_reducible first | exact HI273.out | apply IsS75.alloc | apply IsS75.drewN | apply IsS75.drew | apply IsS75.set_1 | apply IsS75.set_2 | refine IsS75.far ?_ NB273_268.out _ | refine IsS75.far ?_ NB273_269.out _ | refine IsS75.far ?_ NB273_280.out _) | exact HI273.out)⟩, ⟨by repeat (first | (with_reducible first | exact HB.out | apply below_alloc | apply pw_below_drewN | apply below_drew1 | refine below_set ?_ (IsS75.ge HI273.out) | refine below_set ?_ GE268.out | refine below_set ?_ GE269.out | refine below_set ?_ GE280.out) | exact HB.out)⟩⟩
 case rest =>
  clear HC4
  try clear c1
  try clear c2
  try clear p2
  try clear c3
  try clear c10
  try clear c11
  try clear c12
  try clear c15
  try clear c15b0
  try clear c15b1
  try clear c17
  try clear c18
  try clear c19
  try clear c21
  try clear c22
  try clear c23
  try clear c24
  try clear hcz13_0
  try clear hcz13_1
  try clear hcz20_0
  try clear hcz20_1
  try clear hcz25_0
  try clear hcz25_1
  try clear hfz13_0
  try clear hfz13_1
  try clear hfz20_0
  try clear hfz20_1
  try clear hfz25_0
  try clear hfz25_1
  obtain ⟨kq, x17_3, x274001_3, x274002_3, rfl, HA, HJ3, HO_281001, BK268, BK269, BK280, HI273, HB⟩ := hcut
  cases kq with
  | zero => exact absurd HA.out (by simp [spec_DrawFindField.j0])
  | succ kj3 =>
   have H := HA.out
   clear HA
   simp only [spec_DrawFindField.j0] at H
   by_cases c26 : x17_3 = true
   ·
    subst c26
    have H1 : ((spec_l1Below.f t270 x274001_3 x274002_3 (t275.length : Int)).bind fun bt284 => (if 0 ≤ bt284.1 then (if bt284.1 < (t275.length : Int) then (some (t274, t275, (rd_T23 t275 bt284.1).f0, (rd_T23 t275 bt284.1).f1)) else (none)) else (none))) = some (r1, r2, r3, r4) := by rw [if_pos rfl] at H; exact H
    clear H
    have H := H1
    clear H1
    replace H := Option.bind_eq_some_iff.mp H
    obtain ⟨⟨t284, t285, t286⟩, A270, H⟩ := H
    replace H : (if 0 ≤ t284 then (if t284 < (t275.length : Int) then (some (t274, t275, (rd_T23 t275 t284).f0, (rd_T23 t275 t284).f1)) else (none)) else (none)) = some (r1, r2, r3, r4) := H
    have A27 := Aside0.mk A270
    clear A270
    by_cases c28 : 0 ≤ t284
    ·
     rw [if_pos c28] at H
     have c28b0 : decide (0 ≤ t284) = true := decide_eq_true c28
     clear c28
     by_cases c29 : t284 < (t275.length : Int)
     ·
      rw [if_pos c29] at H
      have c29b0 : decide (t284 < (t275.length : Int)) = true := decide_eq_true c29
      clear c29
      simp only [Option.some.injEq, Prod.mk.injEq] at H
      obtain ⟨rfl, rfl, rfl, rfl⟩ := H
      try go_wp2
      have n0_ := Aside0.mk (Kd.R_drew HO_281001.out)
      have n1_ := Aside0.mk (blk_drew BK268.out)
      have n2_ := Aside0.mk (blk_drew BK269.out)
      have n3_ := Aside0.mk (blk_drew BK280.out)
      have n4_ := Aside0.mk (IsS75.drew HI273.out)
      have n5_ := Aside0.mk (below_drew1 HB.out)
      clear HO_281001
      clear BK268
      clear BK269
      clear BK280
      clear HI273
      clear HB
      have HO_281001 := n0_
      have BK268 := n1_
      have BK269 := n2_
      have BK280 := n3_
      have HI273 := n4_
      have HB := n5_
      clear n0_ n1_ n2_ n3_ n4_ n5_
      have p287 : 0 ≤ (t284 : Int) := of_decide_eq_true (by first | (with_reducible assumption) | assumption)
      have q287 : t284 < (t275.length : Int) := of_decide_eq_true (by first | (with_reducible assumption) | assumption)
      obtain ⟨ad287, e287, hx287_0, hx287_1⟩ := at_T23 (Kd.R_reads' HO_281001.out).2.2 t284 p287 q287
      cases e287
      replace p287 := eq_true p287
      replace q287 := eq_true q287
      refine start_ (n := 12) (S := fun w' => w'.cell? ⟨gb280, 0, none⟩ = some (.int .i64 t274) ∧ w'.cell? ⟨gb280, 1, none⟩ = some (.slice (some ad287) t275.length co14) ∧ w'.cell? (ad287.add ((t284).toNat * 2)) = some (.string ((rd_T23 t275 t284).f0)) ∧ w'.cell? ⟨(ad287.add ((t284).toNat * 2)).block, (ad287.add ((t284).toNat * 2)).off + 1, none⟩ = some (.string ((rd_T23 t275 t284).f1))) (ds := []) #[false, false, false, false, false, false, false, false, false, false, false, false] (by kernel_rfl) rfl rfl ⟨(blk_cell BK280.out 0).trans rfl, (blk_cell BK280.out 1).trans rfl, hx287_0, hx287_1⟩ (fun hHeld => ?_); refine with_tabW spec_DrawFindField.tab4 spec_DrawFindField.bits4 (fun HT_ HW_ => ?_)
      generalize wc.drew = w30 at HO_281001 BK268 BK269 BK280 HI273 HB hx287_0 hx287_1 hHeld ⊢
      refine pure_ (i := 1) (N := some 19) (v := ?_) (a' := ?_) #[false, true, false, false, false, false, false, false, false, false, false, false] rfl rfl (any_of HT_.out (by kernel_rfl)) (fun _ _ _ h => h) (Or.inl ⟨by rfl, ?_⟩) ?_ ?_
      rotate_left
      ·
       intro w'
       go_simp
       with_reducible rfl
      rotate_left
      ·
       simp only [Act.put, List.setIfInBounds_toArray, List.set_cons_zero, List.set_cons_succ, i64_w, i32_w]
       rfl
      refine pure_ (i := 3) (N := some 21) (v := ?_) (a' := ?_) #[false, true, false, true, false, false, false, false, false, false, false, false] rfl rfl (any_of HT_.out (by kernel_rfl)) (fun _ _ _ h => h) (Or.inl ⟨by rfl, ?_⟩) ?_ ?_
      rotate_left
      ·
       intro w'
       go_simp
       with_reducible rfl
      rotate_left
      ·
       simp only [Act.put, List.setIfInBounds_toArray, List.set_cons_zero, List.set_cons_succ, i64_w, i32_w]
       rfl
      refine pure_ (i := 4) (N := some 22) (v := ?_) (a' := ?_) #[false, true, false, true, true, false, false, false, false, false, false, false] rfl rfl (any_of HT_.out (by kernel_rfl)) (fun _ _ _ h => h) (Or.inl ⟨by rfl, ?_⟩) ?_ ?_
      rotate_left
      ·
       intro w'
       go_simp
       with_reducible rfl
      rotate_left
      ·
       simp only [Act.put, List.setIfInBounds_toArray, List.set_cons_zero, List.set_cons_succ, i64_w, i32_w]
       rfl
      refine take_ (i := 0) (N := some 18) (v := ?_) (a' := ?_) #[true, true, false, true, true, false, false, false, false, false, false, false] rfl rfl (take_ofW HT_.out HW_.out (by kernel_rfl)) (fun _ _ _ h => h) (Or.inl ⟨by rfl, ?_⟩) hHeld ?_ ?_
      rotate_left
      ·
       rintro w' ⟨s0, s1, s2, s3⟩
       go_simp
       with_reducible rfl
      rotate_left
      ·
       simp only [Act.put, List.setIfInBounds_toArray, List.set_cons_zero, List.set_cons_succ, i64_w, i32_w]
       rfl
      refine take_ (i := 2) (N := some 20) (v := ?_) (a' := ?_) #[true, true, true, true, true, false, false, false, false, false, false, false] rfl rfl (take_ofW HT_.out HW_.out (by kernel_rfl)) (fun _ _ _ h => h) (Or.inl ⟨by rfl, ?_⟩) hHeld ?_ ?_
      rotate_left
      ·
       rintro w' ⟨s0, s1, s2, s3⟩
       go_simp
       with_reducible rfl
      rotate_left
      ·
       simp only [Act.put, List.setIfInBounds_toArray, List.set_cons_zero, List.set_cons_succ, i64_w, i32_w]
       rfl
      refine take_ (i := 5) (N := some 23) (v := ?_) (a' := ?_) #[true, true, true, true, true, true, false, false, false, false, false, false] rfl rfl (take_ofW HT_.out HW_.out (by kernel_rfl)) (fun _ _ _ h => h) (Or.inl ⟨by rfl, ?_⟩) hHeld ?_ ?_
      rotate_left
      ·
       rintro w' ⟨s0, s1, s2, s3⟩
       go_simp
       with_reducible rfl
      rotate_left
      ·
       simp only [Act.put, List.setIfInBounds_toArray, List.set_cons_zero, List.set_cons_succ, i64_w, i32_w]
       rfl
      refine pure_ (i := 6) (N := some 24) (v := ?_) (a' := ?_) #[true, true, true, true, true, true, true, false, false, false, false, false] rfl rfl (any_of HT_.out (by kernel_rfl)) (fun _ _ _ h => h) (Or.inl ⟨by rfl, ?_⟩) ?_ ?_
      rotate_left
      ·
       intro w'
       go_simp
       with_reducible rfl
      rotate_left
      ·
       simp only [Act.put, List.setIfInBounds_toArray, List.set_cons_zero, List.set_cons_succ, i64_w, i32_w]
       rfl
      refine one_ (i := 7) (N := some 25) #[true, true, true, true, true, true, true, true, false, false, false, false] rfl rfl (one_of HT_.out (by kernel_rfl)) (by decide) (fun K hK => ?_)
      refine goes_ Tryd.func40 (by kernel_rfl) rfl #[.pointer (some ⟨g273, 0, none⟩), .int .i64 (t275.length : Int)] (by rfl) rfl rfl (by (try simp only [List.map_toArray, List.map_cons, List.map_nil]); first | done | rfl | (simp only [List.length_drop, List.length_take]; rfl)) ?_
      with_reducible refine (spec_l1Below.calls g273 t270 x274001_3 x274002_3 (t275.length : Int) t284 t285 t286 w _ ?side1 ?side2 A27.out).mono ?_
      (case side1 => repeat (first | (with_reducible first | exact HI273.out | apply IsS75.alloc | apply IsS75.drewN | apply IsS75.drew | apply IsS75.set_1 | apply IsS75.set_2 | refine IsS75.far ?_ NB273_268.out _ | refine IsS75.far ?_ NB273_269.out _ | refine IsS75.far ?_ NB273_280.out _) | exact HI273.out))
      (case side2 => repeat (first | (with_reducible first | exact HB.out | apply below_alloc | apply pw_below_drewN | apply below_drew1 | refine below_set ?_ (IsS75.ge HI273.out) | refine below_set ?_ GE268.out | refine below_set ?_ GE269.out | refine below_set ?_ GE280.out) | exact HB.out))
      rintro e w31 ⟨rfl, hi, hb, hk⟩
      have HS2_ := keep_cell hk (hHeld.2.2.1) (by first | (rw [add_block]; exact Kd.own_blk (IsS75.own_ne HI273.out HO_281001.out (by decide))) | (show (Addr.add _ _).block ≠ _; rw [add_block]; exact Kd.own_blk (IsS75.own_ne HI273.out HO_281001.out (by decide))) | exact Kd.own_blk (IsS75.own_ne HI273.out HO_281001.out (by decide)))
      have HS3_ := keep_cell hk (hHeld.2.2.2) (by first | (rw [add_block]; exact Kd.own_blk (IsS75.own_ne HI273.out HO_281001.out (by decide))) | (show (Addr.add _ _).block ≠ _; rw [add_block]; exact Kd.own_blk (IsS75.own_ne HI273.out HO_281001.out (by decide))) | exact Kd.own_blk (IsS75.own_ne HI273.out HO_281001.out (by decide)))
      refine ⟨_, rfl, ?_⟩
      have n0_ := Aside0.mk (Kd.R_mono (Kd.R_keep (IsS75.apart (show IsS75 w _ g273 t270 x274001_3 x274002_3 from by repeat (first | (with_reducible first | exact HI273.out | apply IsS75.alloc | apply IsS75.drewN | apply IsS75.drew | apply IsS75.set_1 | apply IsS75.set_2 | refine IsS75.far ?_ NB273_268.out _ | refine IsS75.far ?_ NB273_269.out _ | refine IsS75.far ?_ NB273_280.out _) | exact HI273.out)) (by (with_reducible repeat (first | apply Kd.R_alloc | apply Kd.R_drewN | apply Kd.R_drew)); exact HO_281001.out) (by decide)) hk (fun _ h => h.2)) (fun _ h => h.1))
      have n1_ := Aside0.mk (KeepBut.blk hk (g' := gb268) (o := .cells #[.int .i64 0, .slice none 0 0] 35 (0, 0)) (by (with_reducible repeat (first | refine blk_drewN ?_ _ | refine blk_drew ?_ | refine blk_alloc ?_ _)); exact BK268.out) NB268_273.out (by simp))
      have n2_ := Aside0.mk (KeepBut.blk hk (g' := gb269) (o := .cells #[.string (⟨#[]⟩ : ByteArray), .string (⟨#[]⟩ : ByteArray)] 23 (0, 0)) (by (with_reducible repeat (first | refine blk_drewN ?_ _ | refine blk_drew ?_ | refine blk_alloc ?_ _)); exact BK269.out) NB269_273.out (by simp))
      have n3_ := Aside0.mk (KeepBut.blk hk (g' := gb280) (o := .cells #[.int .i64 t274, .slice (some ad287) t275.length co14] 35 (0, 0)) (by (with_reducible repeat (first | refine blk_drewN ?_ _ | refine blk_drew ?_ | refine blk_alloc ?_ _)); exact BK280.out) NB280_273.out (by simp))
      have n4_ := Aside0.mk (hb)
      have n5_ := Aside0.mk (hi)
      clear HO_281001
      clear BK268
      clear BK269
      clear BK280
      clear HB
      clear HI273
      have HO_281001 := n0_
      have BK268 := n1_
      have BK269 := n2_
      have BK280 := n3_
      have HB := n4_
      have HI273 := n5_
      clear n0_ n1_ n2_ n3_ n4_ n5_
      (try clear hb)
      (try clear hb2)
      (try clear hk)
      (try clear hi)
      refine hK.out _ _ ⟨(blk_cell BK280.out 0).trans rfl, (blk_cell BK280.out 1).trans rfl, HS2_, HS3_⟩ (fun hHeld => ?_)
      clear hK K
      refine norm_ (a' := ?_) ?_ ?_
      rotate_left
      ·
       show Act.put _ (some 25) _ = _
       simp only [Act.put, List.setIfInBounds_toArray, List.set_cons_zero, List.set_cons_succ, i64_w, i32_w]
       rfl
      refine pure_ (i := 8) (N := some 26) (v := ?_) (a' := ?_) #[true, true, true, true, true, true, true, true, true, false, false, false] rfl rfl (any_of HT_.out (by kernel_rfl)) (fun _ _ _ h => h) (Or.inl ⟨by rfl, ?_⟩) ?_ ?_
      rotate_left
      ·
       intro w'
       go_simp
       with_reducible rfl
      rotate_left
      ·
       simp only [Act.put, List.setIfInBounds_toArray, List.set_cons_zero, List.set_cons_succ, i64_w, i32_w]
       rfl
      refine take_ (i := 9) (N := some 27) (v := ?_) (a' := ?_) #[true, true, true, true, true, true, true, true, true, true, false, false] rfl rfl (take_ofW HT_.out HW_.out (by kernel_rfl)) (fun _ _ _ h => h) (Or.inl ⟨by rfl, ?_⟩) hHeld ?_ ?_
      rotate_left
      ·
       rintro w' ⟨s0, s1, s2, s3⟩
       go_simp
       with_reducible rfl
      rotate_left
      ·
       simp only [Act.put, List.setIfInBounds_toArray, List.set_cons_zero, List.set_cons_succ, i64_w, i32_w]
       rfl
      refine one_ (i := 10) (N := none) #[true, true, true, true, true, true, true, true, true, true, true, false] rfl rfl (one_of HT_.out (by kernel_rfl)) (by decide) (fun K hK => ?_)
      have hs32 : w31.cell? ⟨gb268, 0, none⟩ = some (.int .i64 0) := (blk_cell BK268.out 0).trans rfl
      have hfs32 := blk_frozen BK268.out 0
      have hns32_1 := NB269_268.out
      have hns32_2 := NB280_268.out
      have hms32_1 := NB268_269.out
      have hms32_2 := NB268_280.out
      have hs33 : w31.cell? ⟨gb268, 1, none⟩ = some (.slice none 0 0) := (blk_cell BK268.out 1).trans rfl
      have hfs33 := blk_frozen BK268.out 1
      have hns33_1 := NB269_268.out
      have hns33_2 := NB280_268.out
      have hms33_1 := NB268_269.out
      have hms33_2 := NB268_280.out
      refine skip_ (w1 := ?_) (by rfl) rfl ?_ ?_
      rotate_left
      ·
       go_simp
       rfl
      refine hK.out _ _ ⟨((cell_far (p := ⟨gb268, _, none⟩) NB280_268.out _).trans (((cell_far (p := ⟨gb268, _, none⟩) NB280_268.out _).trans (hHeld.1)))), ((cell_far (p := ⟨gb268, _, none⟩) NB280_268.out _).trans (((cell_far (p := ⟨gb268, _, none⟩) NB280_268.out _).trans (hHeld.2.1)))), ((cell_far (p := ⟨gb268, _, none⟩) (by first | exact Kd.own_blk (by first | exact Kd.R_ne HO_281001.out BK268.out (by decide) | exact fun e_ => (HO_281001.out.1 _ e_.symm).2 rfl | exact fun e_ => (HO_281001.out.1 _ e_.symm).1 rfl | exact fun e_ => (HO_281001.out.1 _ e_.symm) rfl) | (rw [add_block]; exact Kd.own_blk (by first | exact Kd.R_ne HO_281001.out BK268.out (by decide) | exact fun e_ => (HO_281001.out.1 _ e_.symm).2 rfl | exact fun e_ => (HO_281001.out.1 _ e_.symm).1 rfl | exact fun e_ => (HO_281001.out.1 _ e_.symm) rfl)) | (show (Addr.add _ _).block ≠ _; rw [add_block]; exact Kd.own_blk (by first | exact Kd.R_ne HO_281001.out BK268.out (by decide) | exact fun e_ => (HO_281001.out.1 _ e_.symm).2 rfl | exact fun e_ => (HO_281001.out.1 _ e_.symm).1 rfl | exact fun e_ => (HO_281001.out.1 _ e_.symm) rfl)) | (dsimp only; exact Kd.own_blk (by first | exact Kd.R_ne HO_281001.out BK268.out (by decide) | exact fun e_ => (HO_281001.out.1 _ e_.symm).2 rfl | exact fun e_ => (HO_281001.out.1 _ e_.symm).1 rfl | exact fun e_ => (HO_281001.out.1 _ e_.symm) rfl))) _).trans (((cell_far (p := ⟨gb268, _, none⟩) (by first | exact Kd.own_blk (by first | exact Kd.R_ne HO_281001.out BK268.out (by decide) | exact fun e_ => (HO_281001.out.1 _ e_.symm).2 rfl | exact fun e_ => (HO_281001.out.1 _ e_.symm).1 rfl | exact fun e_ => (HO_281001.out.1 _ e_.symm) rfl) | (rw [add_block]; exact Kd.own_blk (by first | exact Kd.R_ne HO_281001.out BK268.out (by decide) | exact fun e_ => (HO_281001.out.1 _ e_.symm).2 rfl | exact fun e_ => (HO_281001.out.1 _ e_.symm).1 rfl | exact fun e_ => (HO_281001.out.1 _ e_.symm) rfl)) | (show (Addr.add _ _).block ≠ _; rw [add_block]; exact Kd.own_blk (by first | exact Kd.R_ne HO_281001.out BK268.out (by decide) | exact fun e_ => (HO_281001.out.1 _ e_.symm).2 rfl | exact fun e_ => (HO_281001.out.1 _ e_.symm).1 rfl | exact fun e_ => (HO_281001.out.1 _ e_.symm) rfl)) | (dsimp only; exact Kd.own_blk (by first | exact Kd.R_ne HO_281001.out BK268.out (by decide) | exact fun e_ => (HO_281001.out.1 _ e_.symm).2 rfl | exact fun e_ => (HO_281001.out.1 _ e_.symm).1 rfl | exact fun e_ => (HO_281001.out.1 _ e_.symm) rfl))) _).trans (hHeld.2.2.1)))), ((cell_far (p := ⟨gb268, _, none⟩) (by first | exact Kd.own_blk (by first | exact Kd.R_ne HO_281001.out BK268.out (by decide) | exact fun e_ => (HO_281001.out.1 _ e_.symm).2 rfl | exact fun e_ => (HO_281001.out.1 _ e_.symm).1 rfl | exact fun e_ => (HO_281001.out.1 _ e_.symm) rfl) | (rw [add_block]; exact Kd.own_blk (by first | exact Kd.R_ne HO_281001.out BK268.out (by decide) | exact fun e_ => (HO_281001.out.1 _ e_.symm).2 rfl | exact fun e_ => (HO_281001.out.1 _ e_.symm).1 rfl | exact fun e_ => (HO_281001.out.1 _ e_.symm) rfl)) | (show (Addr.add _ _).block ≠ _; rw [add_block]; exact Kd.own_blk (by first | exact Kd.R_ne HO_281001.out BK268.out (by decide) | exact fun e_ => (HO_281001.out.1 _ e_.symm).2 rfl | exact fun e_ => (HO_281001.out.1 _ e_.symm).1 rfl | exact fun e_ => (HO_281001.out.1 _ e_.symm) rfl)) | (dsimp only; exact Kd.own_blk (by first | exact Kd.R_ne HO_281001.out BK268.out (by decide) | exact fun e_ => (HO_281001.out.1 _ e_.symm).2 rfl | exact fun e_ => (HO_281001.out.1 _ e_.symm).1 rfl | exact fun e_ => (HO_281001.out.1 _ e_.symm) rfl))) _).trans (((cell_far (p := ⟨gb268, _, none⟩) (by first | exact Kd.own_blk (by first | exact Kd.R_ne HO_281001.out BK268.out (by decide) | exact fun e_ => (HO_281001.out.1 _ e_.symm).2 rfl | exact fun e_ => (HO_281001.out.1 _ e_.symm).1 rfl | exact fun e_ => (HO_281001.out.1 _ e_.symm) rfl) | (rw [add_block]; exact Kd.own_blk (by first | exact Kd.R_ne HO_281001.out BK268.out (by decide) | exact fun e_ => (HO_281001.out.1 _ e_.symm).2 rfl | exact fun e_ => (HO_281001.out.1 _ e_.symm).1 rfl | exact fun e_ => (HO_281001.out.1 _ e_.symm) rfl)) | (show (Addr.add _ _).block ≠ _; rw [add_block]; exact Kd.own_blk (by first | exact Kd.R_ne HO_281001.out BK268.out (by decide) | exact fun e_ => (HO_281001.out.1 _ e_.symm).2 rfl | exact fun e_ => (HO_281001.out.1 _ e_.symm).1 rfl | exact fun e_ => (HO_281001.out.1 _ e_.symm) rfl)) | (dsimp only; exact Kd.own_blk (by first | exact Kd.R_ne HO_281001.out BK268.out (by decide) | exact fun e_ => (HO_281001.out.1 _ e_.symm).2 rfl | exact fun e_ => (HO_281001.out.1 _ e_.symm).1 rfl | exact fun e_ => (HO_281001.out.1 _ e_.symm) rfl))) _).trans (hHeld.2.2.2))))⟩ (fun hHeld => ?_)
      clear hK K
      refine one_ (i := 11) (N := none) #[true, true, true, true, true, true, true, true, true, true, true, true] rfl rfl (one_of HT_.out (by kernel_rfl)) (by decide) (fun K hK => ?_)
      have hs34 : w31.cell? ⟨gb269, 0, none⟩ = some (.string (⟨#[]⟩ : ByteArray)) := (blk_cell BK269.out 0).trans rfl
      have hfs34 := blk_frozen BK269.out 0
      have hns34_0 := NB268_269.out
      have hns34_2 := NB280_269.out
      have hms34_0 := NB269_268.out
      have hms34_2 := NB269_280.out
      have hs35 : w31.cell? ⟨gb269, 1, none⟩ = some (.string (⟨#[]⟩ : ByteArray)) := (blk_cell BK269.out 1).trans rfl
      have hfs35 := blk_frozen BK269.out 1
      have hns35_0 := NB268_269.out
      have hns35_2 := NB280_269.out
      have hms35_0 := NB269_268.out
      have hms35_2 := NB269_280.out
      refine skip_ (w1 := ?_) (by rfl) rfl ?_ ?_
      rotate_left
      ·
       go_simp
       rfl
      refine hK.out _ _ ⟨((cell_far (p := ⟨gb269, _, none⟩) NB280_269.out _).trans (((cell_far (p := ⟨gb269, _, none⟩) NB280_269.out _).trans (hHeld.1)))), ((cell_far (p := ⟨gb269, _, none⟩) NB280_269.out _).trans (((cell_far (p := ⟨gb269, _, none⟩) NB280_269.out _).trans (hHeld.2.1)))), ((cell_far (p := ⟨gb269, _, none⟩) (by first | exact Kd.own_blk (Kd.R_away HO_281001.out (fun _ hk => hk)) | (rw [add_block]; exact Kd.own_blk (Kd.R_away HO_281001.out (fun _ hk => hk))) | (show (Addr.add _ _).block ≠ _; rw [add_block]; exact Kd.own_blk (Kd.R_away HO_281001.out (fun _ hk => hk))) | (dsimp only; exact Kd.own_blk (Kd.R_away HO_281001.out (fun _ hk => hk)))) _).trans (((cell_far (p := ⟨gb269, _, none⟩) (by first | exact Kd.own_blk (Kd.R_away HO_281001.out (fun _ hk => hk)) | (rw [add_block]; exact Kd.own_blk (Kd.R_away HO_281001.out (fun _ hk => hk))) | (show (Addr.add _ _).block ≠ _; rw [add_block]; exact Kd.own_blk (Kd.R_away HO_281001.out (fun _ hk => hk))) | (dsimp only; exact Kd.own_blk (Kd.R_away HO_281001.out (fun _ hk => hk)))) _).trans (hHeld.2.2.1)))), ((cell_far (p := ⟨gb269, _, none⟩) (by first | exact Kd.own_blk (Kd.R_away HO_281001.out (fun _ hk => hk)) | (rw [add_block]; exact Kd.own_blk (Kd.R_away HO_281001.out (fun _ hk => hk))) | (show (Addr.add _ _).block ≠ _; rw [add_block]; exact Kd.own_blk (Kd.R_away HO_281001.out (fun _ hk => hk))) | (dsimp only; exact Kd.own_blk (Kd.R_away HO_281001.out (fun _ hk => hk)))) _).trans (((cell_far (p := ⟨gb269, _, none⟩) (by first | exact Kd.own_blk (Kd.R_away HO_281001.out (fun _ hk => hk)) | (rw [add_block]; exact Kd.own_blk (Kd.R_away HO_281001.out (fun _ hk => hk))) | (show (Addr.add _ _).block ≠ _; rw [add_block]; exact Kd.own_blk (Kd.R_away HO_281001.out (fun _ hk => hk))) | (dsimp only; exact Kd.own_blk (Kd.R_away HO_281001.out (fun _ hk => hk)))) _).trans (hHeld.2.2.2))))⟩ (fun hHeld => ?_)
      clear hK K
      refine done_ (done_of HT_.out (by kernel_rfl)) ?_
      try go_wp2
      refine bodyPost_ret (results_cc rfl _ _ gb268 gb269 35 23 #[.int .i64 t274, .slice (some ad287) t275.length co14] #[.string ((rd_T23 t275 t284).f0), .string ((rd_T23 t275 t284).f1)] (0, 0) (0, 0) _ _ rfl (by (with_reducible repeat (first | refine blk_drewN ?_ _ | refine blk_drew ?_ | refine blk_alloc ?_ _)); refine blk_far ?_ NB268_269.out _; (with_reducible repeat (first | refine blk_drewN ?_ _ | refine blk_drew ?_ | refine blk_alloc ?_ _)); refine blk_far ?_ NB268_269.out _; (with_reducible repeat (first | refine blk_drewN ?_ _ | refine blk_drew ?_ | refine blk_alloc ?_ _)); refine blk_put (cs := #[.int .i64 t274, .slice none 0 0]) ?_ 1 _ rfl; (with_reducible repeat (first | refine blk_drewN ?_ _ | refine blk_drew ?_ | refine blk_alloc ?_ _)); refine blk_put (cs := #[.int .i64 0, .slice none 0 0]) ?_ 0 _ rfl; (with_reducible repeat (first | refine blk_drewN ?_ _ | refine blk_drew ?_ | refine blk_alloc ?_ _)); exact BK268.out) Tryd.underlying35 rfl (by kernel_rfl) rfl (by (with_reducible repeat (first | refine blk_drewN ?_ _ | refine blk_drew ?_ | refine blk_alloc ?_ _)); refine blk_put (cs := #[.string ((rd_T23 t275 t284).f0), .string (⟨#[]⟩ : ByteArray)]) ?_ 1 _ rfl; (with_reducible repeat (first | refine blk_drewN ?_ _ | refine blk_drew ?_ | refine blk_alloc ?_ _)); refine blk_put (cs := #[.string (⟨#[]⟩ : ByteArray), .string (⟨#[]⟩ : ByteArray)]) ?_ 0 _ rfl; (with_reducible repeat (first | refine blk_drewN ?_ _ | refine blk_drew ?_ | refine blk_alloc ?_ _)); refine blk_far ?_ NB269_268.out _; (with_reducible repeat (first | refine blk_drewN ?_ _ | refine blk_drew ?_ | refine blk_alloc ?_ _)); refine blk_far ?_ NB269_268.out _; (with_reducible repeat (first | refine blk_drewN ?_ _ | refine blk_drew ?_ | refine blk_alloc ?_ _)); exact BK269.out) Tryd.underlying23 rfl (by kernel_rfl)) rfl ?_
      exact ⟨_, by first | rfl | (simp [errW_none, errW_some] <;> rfl) | (simp [*, errW_none, errW_some] <;> rfl), by (with_reducible repeat (first | apply Kd.R_alloc | apply Kd.R_drewN | apply Kd.R_drew)); exact Kd.R_mono (Kd.R_far (p := ⟨gb269, 1, none⟩) (Kd.R_far (p := ⟨gb269, 0, none⟩) (Kd.R_far (p := ⟨gb268, 1, none⟩) (Kd.R_far (p := ⟨gb268, 0, none⟩) (Kd.R_mono (Kd.R_types HO_281001.out BK268.out (by decide)) (fun k_ hk => (⟨hk, (by first | exact hk.1 | (have hq_ := hk; simp only [ne_eq] at hq_ ⊢; simp only [hq_, not_false_eq_true, and_self]))⟩ : _ ∧ k_ ≠ gb269))) (fun _ hk => hk.1.2) (.int .i64 t274)) (fun _ hk => hk.1.2) (.slice (some ad287) t275.length co14)) (fun _ hk => hk.2) (.string ((rd_T23 t275 t284).f0))) (fun _ hk => hk.2) (.string ((rd_T23 t275 t284).f1))) (fun _ hk => trivial), by repeat (first | (with_reducible first | exact HB.out | apply below_alloc | apply pw_below_drewN | apply below_drew1 | refine below_set ?_ (IsS75.ge HI273.out) | refine below_set ?_ GE268.out | refine below_set ?_ GE269.out | refine below_set ?_ GE280.out) | exact HB.out)⟩
     ·
      rw [if_neg c29] at H
      exact absurd H (by simp)
    ·
     rw [if_neg c28] at H
     exact absurd H (by simp)
   ·
    replace c26 := Bool.eq_false_iff.mpr c26
    subst c26
    have H1 : ((spec_l4Field.f t270 x274001_3 x274002_3).bind fun bt288 => (some (t274, t275, bt288.1, bt288.2.1))) = some (r1, r2, r3, r4) := by rw [if_neg (show ¬ (false = true) by decide)] at H; exact H
    clear H
    have H := H1
    clear H1
    replace H := Option.bind_eq_some_iff.mp H
    obtain ⟨⟨t288, t289, t290, t291⟩, A360, H⟩ := H
    replace H : (some (t274, t275, t288, t289)) = some (r1, r2, r3, r4) := H
    have A36 := Aside0.mk A360
    clear A360
    simp only [Option.some.injEq, Prod.mk.injEq] at H
    obtain ⟨rfl, rfl, rfl, rfl⟩ := H
    try go_wp2
    have n0_ := Aside0.mk (Kd.R_drew HO_281001.out)
    have n1_ := Aside0.mk (blk_drew BK268.out)
    have n2_ := Aside0.mk (blk_drew BK269.out)
    have n3_ := Aside0.mk (blk_drew BK280.out)
    have n4_ := Aside0.mk (IsS75.drew HI273.out)
    have n5_ := Aside0.mk (below_drew1 HB.out)
    clear HO_281001
    clear BK268
    clear BK269
    clear BK280
    clear HI273
    clear HB
    have HO_281001 := n0_
    have BK268 := n1_
    have BK269 := n2_
    have BK280 := n3_
    have HI273 := n4_
    have HB := n5_
    clear n0_ n1_ n2_ n3_ n4_ n5_
    refine start_ (n := 5) (S := fun w' => w'.cell? ⟨gb280, 0, none⟩ = some (.int .i64 t274) ∧ w'.cell? ⟨gb280, 1, none⟩ = some (.slice Ao14 t275.length co14)) (ds := []) #[false, false, false, false, false] (by kernel_rfl) rfl rfl ⟨(blk_cell BK280.out 0).trans rfl, (blk_cell BK280.out 1).trans rfl⟩ (fun hHeld => ?_)
    generalize wc.drew = w37 at HO_281001 BK268 BK269 BK280 HI273 HB hHeld ⊢
    refine pure_ (i := 1) (N := some 29) (v := ?_) (a' := ?_) #[false, true, false, false, false] rfl rfl (by kernel_rfl) (fun _ _ _ h => h) (Or.inl ⟨by rfl, ?_⟩) ?_ ?_
    rotate_left
    ·
     intro w'
     go_simp
     with_reducible rfl
    rotate_left
    ·
     simp only [Act.put, List.setIfInBounds_toArray, List.set_cons_zero, List.set_cons_succ, i64_w, i32_w]
     rfl
    refine take_ (i := 0) (N := some 28) (v := ?_) (a' := ?_) #[true, true, false, false, false] rfl rfl (by kernel_rfl) (fun _ _ _ h => h) (Or.inl ⟨by rfl, ?_⟩) hHeld ?_ ?_
    rotate_left
    ·
     rintro w' ⟨s0, s1⟩
     go_simp
     with_reducible rfl
    rotate_left
    ·
     simp only [Act.put, List.setIfInBounds_toArray, List.set_cons_zero, List.set_cons_succ, i64_w, i32_w]
     rfl
    refine one_ (i := 2) (N := some 30) #[true, true, true, false, false] rfl rfl (by kernel_rfl) (by decide) (fun K hK => ?_)
    refine goes_ Tryd.func41 (by kernel_rfl) rfl #[.pointer (some ⟨g273, 0, none⟩)] (by rfl) rfl rfl (by (try simp only [List.map_toArray, List.map_cons, List.map_nil]); first | done | rfl | (simp only [List.length_drop, List.length_take]; rfl)) ?_
    with_reducible refine (spec_l4Field.calls g273 t270 x274001_3 x274002_3 t288 t289 t290 t291 w _ ?side1 ?side2 A36.out).mono ?_
    (case side1 => repeat (first | (with_reducible first | exact HI273.out | apply IsS75.alloc | apply IsS75.drewN | apply IsS75.drew | apply IsS75.set_1 | apply IsS75.set_2 | refine IsS75.far ?_ NB273_268.out _ | refine IsS75.far ?_ NB273_269.out _ | refine IsS75.far ?_ NB273_280.out _) | exact HI273.out))
    (case side2 => repeat (first | (with_reducible first | exact HB.out | apply below_alloc | apply pw_below_drewN | apply below_drew1 | refine below_set ?_ (IsS75.ge HI273.out) | refine below_set ?_ GE268.out | refine below_set ?_ GE269.out | refine below_set ?_ GE280.out) | exact HB.out))
    rintro e w38 ⟨rfl, hi, hb, hk⟩
    refine ⟨_, rfl, ?_⟩
    have n0_ := Aside0.mk (Kd.R_mono (Kd.R_keep (IsS75.apart (show IsS75 w _ g273 t270 x274001_3 x274002_3 from by repeat (first | (with_reducible first | exact HI273.out | apply IsS75.alloc | apply IsS75.drewN | apply IsS75.drew | apply IsS75.set_1 | apply IsS75.set_2 | refine IsS75.far ?_ NB273_268.out _ | refine IsS75.far ?_ NB273_269.out _ | refine IsS75.far ?_ NB273_280.out _) | exact HI273.out)) (by (with_reducible repeat (first | apply Kd.R_alloc | apply Kd.R_drewN | apply Kd.R_drew)); exact HO_281001.out) (by decide)) hk (fun _ h => h.2)) (fun _ h => h.1))
    have n1_ := Aside0.mk (KeepBut.blk hk (g' := gb268) (o := .cells #[.int .i64 0, .slice none 0 0] 35 (0, 0)) (by (with_reducible repeat (first | refine blk_drewN ?_ _ | refine blk_drew ?_ | refine blk_alloc ?_ _)); exact BK268.out) NB268_273.out (by simp))
    have n2_ := Aside0.mk (KeepBut.blk hk (g' := gb269) (o := .cells #[.string (⟨#[]⟩ : ByteArray), .string (⟨#[]⟩ : ByteArray)] 23 (0, 0)) (by (with_reducible repeat (first | refine blk_drewN ?_ _ | refine blk_drew ?_ | refine blk_alloc ?_ _)); exact BK269.out) NB269_273.out (by simp))
    have n3_ := Aside0.mk (KeepBut.blk hk (g' := gb280) (o := .cells #[.int .i64 t274, .slice Ao14 t275.length co14] 35 (0, 0)) (by (with_reducible repeat (first | refine blk_drewN ?_ _ | refine blk_drew ?_ | refine blk_alloc ?_ _)); exact BK280.out) NB280_273.out (by simp))
    have n4_ := Aside0.mk (hb)
    have n5_ := Aside0.mk (hi)
    clear HO_281001
    clear BK268
    clear BK269
    clear BK280
    clear HB
    clear HI273
    have HO_281001 := n0_
    have BK268 := n1_
    have BK269 := n2_
    have BK280 := n3_
    have HB := n4_
    have HI273 := n5_
    clear n0_ n1_ n2_ n3_ n4_ n5_
    (try clear hb)
    (try clear hb2)
    (try clear hk)
    (try clear hi)
    refine hK.out _ _ ⟨(blk_cell BK280.out 0).trans rfl, (blk_cell BK280.out 1).trans rfl⟩ (fun hHeld => ?_)
    clear hK K
    refine norm_ (a' := ?_) ?_ ?_
    rotate_left
    ·
     show Act.put _ (some 30) _ = _
     simp only [Act.put, List.setIfInBounds_toArray, List.set_cons_zero, List.set_cons_succ, i64_w, i32_w]
     rfl
    refine one_ (i := 3) (N := none) #[true, true, true, true, false] rfl rfl (by kernel_rfl) (by decide) (fun K hK => ?_)
    have hs39 : w38.cell? ⟨gb268, 0, none⟩ = some (.int .i64 0) := (blk_cell BK268.out 0).trans rfl
    have hfs39 := blk_frozen BK268.out 0
    have hns39_1 := NB269_268.out
    have hns39_2 := NB280_268.out
    have hms39_1 := NB268_269.out
    have hms39_2 := NB268_280.out
    have hs40 : w38.cell? ⟨gb268, 1, none⟩ = some (.slice none 0 0) := (blk_cell BK268.out 1).trans rfl
    have hfs40 := blk_frozen BK268.out 1
    have hns40_1 := NB269_268.out
    have hns40_2 := NB280_268.out
    have hms40_1 := NB268_269.out
    have hms40_2 := NB268_280.out
    refine skip_ (w1 := ?_) (by rfl) rfl ?_ ?_
    rotate_left
    ·
     go_simp
     rfl
    refine hK.out _ _ ⟨((cell_far (p := ⟨gb268, _, none⟩) NB280_268.out _).trans (((cell_far (p := ⟨gb268, _, none⟩) NB280_268.out _).trans (hHeld.1)))), ((cell_far (p := ⟨gb268, _, none⟩) NB280_268.out _).trans (((cell_far (p := ⟨gb268, _, none⟩) NB280_268.out _).trans (hHeld.2))))⟩ (fun hHeld => ?_)
    clear hK K
    refine one_ (i := 4) (N := none) #[true, true, true, true, true] rfl rfl (by kernel_rfl) (by decide) (fun K hK => ?_)
    have hs41 : w38.cell? ⟨gb269, 0, none⟩ = some (.string (⟨#[]⟩ : ByteArray)) := (blk_cell BK269.out 0).trans rfl
    have hfs41 := blk_frozen BK269.out 0
    have hns41_0 := NB268_269.out
    have hns41_2 := NB280_269.out
    have hms41_0 := NB269_268.out
    have hms41_2 := NB269_280.out
    have hs42 : w38.cell? ⟨gb269, 1, none⟩ = some (.string (⟨#[]⟩ : ByteArray)) := (blk_cell BK269.out 1).trans rfl
    have hfs42 := blk_frozen BK269.out 1
    have hns42_0 := NB268_269.out
    have hns42_2 := NB280_269.out
    have hms42_0 := NB269_268.out
    have hms42_2 := NB269_280.out
    refine skip_ (w1 := ?_) (by rfl) rfl ?_ ?_
    rotate_left
    ·
     go_simp
     rfl
    refine hK.out _ _ ⟨((cell_far (p := ⟨gb269, _, none⟩) NB280_269.out _).trans (((cell_far (p := ⟨gb269, _, none⟩) NB280_269.out _).trans (hHeld.1)))), ((cell_far (p := ⟨gb269, _, none⟩) NB280_269.out _).trans (((cell_far (p := ⟨gb269, _, none⟩) NB280_269.out _).trans (hHeld.2))))⟩ (fun hHeld => ?_)
    clear hK K
    refine done_ (by kernel_rfl) ?_
    try go_wp2
    refine bodyPost_ret (results_cc rfl _ _ gb268 gb269 35 23 #[.int .i64 t274, .slice Ao14 t275.length co14] #[.string t288, .string t289] (0, 0) (0, 0) _ _ rfl (by (with_reducible repeat (first | refine blk_drewN ?_ _ | refine blk_drew ?_ | refine blk_alloc ?_ _)); refine blk_far ?_ NB268_269.out _; (with_reducible repeat (first | refine blk_drewN ?_ _ | refine blk_drew ?_ | refine blk_alloc ?_ _)); refine blk_far ?_ NB268_269.out _; (with_reducible repeat (first | refine blk_drewN ?_ _ | refine blk_drew ?_ | refine blk_alloc ?_ _)); refine blk_put (cs := #[.int .i64 t274, .slice none 0 0]) ?_ 1 _ rfl; (with_reducible repeat (first | refine blk_drewN ?_ _ | refine blk_drew ?_ | refine blk_alloc ?_ _)); refine blk_put (cs := #[.int .i64 0, .slice none 0 0]) ?_ 0 _ rfl; (with_reducible repeat (first | refine blk_drewN ?_ _ | refine blk_drew ?_ | refine blk_alloc ?_ _)); exact BK268.out) Tryd.underlying35 rfl (by kernel_rfl) rfl (by (with_reducible repeat (first | refine blk_drewN ?_ _ | refine blk_drew ?_ | refine blk_alloc ?_ _)); refine blk_put (cs := #[.string t288, .string (⟨#[]⟩ : ByteArray)]) ?_ 1 _ rfl; (with_reducible repeat (first | refine blk_drewN ?_ _ | refine blk_drew ?_ | refine blk_alloc ?_ _)); refine blk_put (cs := #[.string (⟨#[]⟩ : ByteArray), .string (⟨#[]⟩ : ByteArray)]) ?_ 0 _ rfl; (with_reducible repeat (first | refine blk_drewN ?_ _ | refine blk_drew ?_ | refine blk_alloc ?_ _)); refine blk_far ?_ NB269_268.out _; (with_reducible repeat (first | refine blk_drewN ?_ _ | refine blk_drew ?_ | refine blk_alloc ?_ _)); refine blk_far ?_ NB269_268.out _; (with_reducible repeat (first | refine blk_drewN ?_ _ | refine blk_drew ?_ | refine blk_alloc ?_ _)); exact BK269.out) Tryd.underlying23 rfl (by kernel_rfl)) rfl ?_
    exact ⟨_, by first | rfl | (simp [errW_none, errW_some] <;> rfl) | (simp [*, errW_none, errW_some] <;> rfl), by (with_reducible repeat (first | apply Kd.R_alloc | apply Kd.R_drewN | apply Kd.R_drew)); exact Kd.R_mono (Kd.R_far (p := ⟨gb269, 1, none⟩) (Kd.R_far (p := ⟨gb269, 0, none⟩) (Kd.R_far (p := ⟨gb268, 1, none⟩) (Kd.R_far (p := ⟨gb268, 0, none⟩) (Kd.R_mono (Kd.R_types HO_281001.out BK268.out (by decide)) (fun k_ hk => (⟨hk, (by first | exact hk.1 | (have hq_ := hk; simp only [ne_eq] at hq_ ⊢; simp only [hq_, not_false_eq_true, and_self]))⟩ : _ ∧ k_ ≠ gb269))) (fun _ hk => hk.1.2) (.int .i64 t274)) (fun _ hk => hk.1.2) (.slice Ao14 t275.length co14)) (fun _ hk => hk.2) (.string t288)) (fun _ hk => hk.2) (.string t289)) (fun _ hk => trivial), by repeat (first | (with_reducible first | exact HB.out | apply below_alloc | apply pw_below_drewN | apply below_drew1 | refine below_set ?_ (IsS75.ge HI273.out) | refine below_set ?_ GE268.out | refine below_set ?_ GE269.out | refine below_set ?_ GE280.out) | exact HB.out)⟩

end Go.Proofs.YtfcgadokmbooaaaDoor.A
