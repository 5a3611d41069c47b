/- Written by a program of this session, out of the translation: functions as plain Lean functions, and that the machine's calls answer as they do. Condition: none beyond each theorem's own. -/
import Derived.Test.YthflimnpiglgbaaDoorAx0
import Derived.Test.YthflimnpiglgbaaDoorAx1
import Derived.Test.YthflimnpiglgbaaDoorAx2
import Derived.Test.YthflimnpiglgbaaDoorAx6
import Derived.Test.YthflimnpiglgbaaDoorAx7
namespace Go.Proofs.YthflimnpiglgbaaDoor.A
open Go.RowKit Go.Proofs.YthflimnpiglgbaaDoorW.PrintWords Go.Proofs.YthflimnpiglgbaaDoorW.PrintLast Go.Proofs.YthflimnpiglgbaaDoorW.PrintMore
attribute [local go_sem] max2_int min2_int max_two min_two max_three min_three max_four min_four   -- for this text's walks alone
set_option linter.unusedVariables false
set_option linter.unusedSimpArgs false

/-! ### laws_FnCodes: function 6 -/
def laws_FnCodes.j0 : Nat → Int → Int → Int → Int → Bool → Option (Bool)
 | 0, _, _, _, _, _ => none
 | k + 1, x3, x4, x5, x6, x38 => if x38 = true then (some false) else (if x3 = x4 then ((impl_CodeOf.f x3).bind fun t138 => ((spec_CodeOf.f k x3).bind fun t139 => (some (t138 == t139)))) else (if x5 > x6 then ((impl_CodeOf.f x3).bind fun t140 => (if 0 ≤ (IntKind.u64.wrap (wrap64 (x5 - x6))) then ((impl_CodeOf.f x4).bind fun t141 => (some ((shr .i64 t140 (IntKind.u64.wrap (wrap64 (x5 - x6)))) != t141))) else (none))) else ((impl_CodeOf.f x4).bind fun t142 => (if 0 ≤ (IntKind.u64.wrap (wrap64 (x6 - x5))) then ((impl_CodeOf.f x3).bind fun t143 => (some ((shr .i64 t142 (IntKind.u64.wrap (wrap64 (x6 - x5)))) != t143))) else (none)))))
def laws_FnCodes.f (k : Nat) (l0 : List Int) : Option (Bool) := (laws_big.f l0).bind fun t132 => (if t132 = true then (some true) else ((laws_at.f l0 2).bind fun t133 => ((laws_at.f l0 3).bind fun t134 => ((impl_CodeLen.f t133).bind fun t135 => ((impl_CodeLen.f t134).bind fun t136 => (if t135 < 5 then (laws_FnCodes.j0 k t133 t134 t135 t136 true) else (if t135 > 30 then (laws_FnCodes.j0 k t133 t134 t135 t136 true) else (if t136 < 5 then (laws_FnCodes.j0 k t133 t134 t135 t136 true) else (if t136 > 30 then (laws_FnCodes.j0 k t133 t134 t135 t136 true) else ((impl_CodeOf.f t133).bind fun t137 => (if 0 ≤ (IntKind.u64.wrap (t135)) then (laws_FnCodes.j0 k t133 t134 t135 t136 (decide (t137 ≥ (shl .i64 1 (IntKind.u64.wrap (t135)))))) else (none))))))))))))
theorem laws_FnCodes.mono_l : ∀ k, (∀ y0 y1 y2 y3 y4, LeO (laws_FnCodes.j0 k y0 y1 y2 y3 y4) (laws_FnCodes.j0 (k + 1) y0 y1 y2 y3 y4))
 | 0 => fun _ _ _ _ _ r h => by simp [laws_FnCodes.j0] at h
 | k + 1 => by
  have ih0 := laws_FnCodes.mono_l k
  ·
   intro y0 y1 y2 y3 y4
   unfold laws_FnCodes.j0
   repeat' first
   | (with_reducible exact ih0 _ _ _ _ _)
   | (with_reducible exact spec_CodeOf.mono _ _)
   | (with_reducible exact LeO.refl _)
   | (with_reducible exact LeO.none _)
   | (with_reducible refine LeO.ite ?_ ?_)
   | (with_reducible refine LeO.bind ?_ (fun _ => ?_))
   | exact ih0 _ _ _ _ _
   | exact spec_CodeOf.mono _ _
   | exact LeO.none _
   | refine LeO.ite ?_ ?_
   | refine LeO.bind ?_ (fun _ => ?_)
theorem laws_FnCodes.mono : ∀ a0 k, LeO (laws_FnCodes.f k a0) (laws_FnCodes.f (k + 1) a0) := by
 intro a0 k
 have ih0 := laws_FnCodes.mono_l k
 unfold laws_FnCodes.f
 repeat' first
   | (with_reducible exact ih0 _ _ _ _ _)
   | (with_reducible exact spec_CodeOf.mono _ _)
   | (with_reducible exact LeO.refl _)
   | (with_reducible exact LeO.none _)
   | (with_reducible refine LeO.ite ?_ ?_)
   | (with_reducible refine LeO.bind ?_ (fun _ => ?_))
   | exact ih0 _ _ _ _ _
   | exact spec_CodeOf.mono _ _
   | exact LeO.none _
   | refine LeO.ite ?_ ?_
   | refine LeO.bind ?_ (fun _ => ?_)
set_option maxHeartbeats 8000000 in
set_option maxRecDepth 100000 in
theorem laws_FnCodes.calls (k : Nat) (A0 : Option Addr) (c0 : Nat) (l0 : List Int) (r : Bool) (w : World) (hr0 : Kd.C (Kd.int .u8) w A0 l0.length l0) (hc0 : l0.length ≤ c0) (ht : TB w) (h : laws_FnCodes.f k l0 = some r) :
  Calls Tryd.prog 6 #[.slice A0 l0.length c0] w fun e w' => e = .returned (.bool r) ∧ Below w.heap.size w w' := by
 have HR0 := Aside0.mk hr0
 have HC0 := Aside0.mk hc0
 clear hr0 hc0
 have HB := Aside0.mk (Below.refl w.heap.size w)
 have H : ((laws_big.f l0).bind fun t132 => (if t132 = true then (some true) else ((laws_at.f l0 2).bind fun t133 => ((laws_at.f l0 3).bind fun t134 => ((impl_CodeLen.f t133).bind fun t135 => ((impl_CodeLen.f t134).bind fun t136 => (if t135 < 5 then (laws_FnCodes.j0 k t133 t134 t135 t136 true) else (if t135 > 30 then (laws_FnCodes.j0 k t133 t134 t135 t136 true) else (if t136 < 5 then (laws_FnCodes.j0 k t133 t134 t135 t136 true) else (if t136 > 30 then (laws_FnCodes.j0 k t133 t134 t135 t136 true) else ((impl_CodeOf.f t133).bind fun t137 => (if 0 ≤ (IntKind.u64.wrap (t135)) then (laws_FnCodes.j0 k t133 t134 t135 t136 (decide (t137 ≥ (shl .i64 1 (IntKind.u64.wrap (t135)))))) else (none))))))))))))) = some r := h
 clear h
 replace H := Option.bind_eq_some_iff.mp H
 obtain ⟨t132, A20, H⟩ := H
 replace H : (if t132 = true then (some true) else ((laws_at.f l0 2).bind fun t133 => ((laws_at.f l0 3).bind fun t134 => ((impl_CodeLen.f t133).bind fun t135 => ((impl_CodeLen.f t134).bind fun t136 => (if t135 < 5 then (laws_FnCodes.j0 k t133 t134 t135 t136 true) else (if t135 > 30 then (laws_FnCodes.j0 k t133 t134 t135 t136 true) else (if t136 < 5 then (laws_FnCodes.j0 k t133 t134 t135 t136 true) else (if t136 > 30 then (laws_FnCodes.j0 k t133 t134 t135 t136 true) else ((impl_CodeOf.f t133).bind fun t137 => (if 0 ≤ (IntKind.u64.wrap (t135)) then (laws_FnCodes.j0 k t133 t134 t135 t136 (decide (t137 ≥ (shl .i64 1 (IntKind.u64.wrap (t135)))))) else (none)))))))))))) = some r := H
 have A2 := Aside0.mk A20
 clear A20
 by_cases c3 : t132 = true
 ·
  subst c3
  have H1 : (some true) = some r := by rw [if_pos rfl] at H; exact H
  clear H
  have H := H1
  clear H1
  obtain rfl := Option.some.inj H
  go_enter Tryd.func6, Tryd.ntmps6
  go_wp2_with (first | ((with_reducible refine gate_callee (f := 20) rfl ?_); refine goesL_ (some 8) rfl rfl Tryd.func20 (by kernel_rfl) rfl #[.slice A0 l0.length c0] rfl (by (try simp only [List.map_toArray, List.map_cons, List.map_nil]); first | done | rfl | (simp only [List.length_drop, List.length_take]; rfl)) ?_; (with_reducible refine (laws_big.calls _ _ l0 true _ ?side1 ?side2 A2.out).mono ?_); (case side1 => repeat (first | exact HR0.out | (with_reducible refine Kd.C_alloc ?_ _) | (with_reducible refine Kd.C_drewN ?_ _) | (with_reducible refine Kd.C_drew ?_))); (case side2 => exact HC0.out); rintro e w' ⟨rfl, ⟨nd, rfl⟩⟩; refine ⟨_, rfl, ?_⟩))
  go_ret
  exact ⟨by first | rfl | (simp [errW_none, errW_some] <;> rfl) | (simp [*, errW_none, errW_some] <;> rfl), by repeat (first | (with_reducible first | exact HB.out | apply below_alloc | apply pw_below_drewN | apply below_drew1) | exact HB.out)⟩
 ·
  replace c3 := Bool.eq_false_iff.mpr c3
  subst c3
  have H1 : ((laws_at.f l0 2).bind fun t133 => ((laws_at.f l0 3).bind fun t134 => ((impl_CodeLen.f t133).bind fun t135 => ((impl_CodeLen.f t134).bind fun t136 => (if t135 < 5 then (laws_FnCodes.j0 k t133 t134 t135 t136 true) else (if t135 > 30 then (laws_FnCodes.j0 k t133 t134 t135 t136 true) else (if t136 < 5 then (laws_FnCodes.j0 k t133 t134 t135 t136 true) else (if t136 > 30 then (laws_FnCodes.j0 k t133 t134 t135 t136 true) else ((impl_CodeOf.f t133).bind fun t137 => (if 0 ≤ (IntKind.u64.wrap (t135)) then (laws_FnCodes.j0 k t133 t134 t135 t136 (decide (t137 ≥ (shl .i64 1 (IntKind.u64.wrap (t135)))))) else (none))))))))))) = some r := by rw [if_neg (show ¬ (false = true) by decide)] at H; exact H
  clear H
  have H := H1
  clear H1
  replace H := Option.bind_eq_some_iff.mp H
  obtain ⟨t133, A40, H⟩ := H
  replace H : ((laws_at.f l0 3).bind fun t134 => ((impl_CodeLen.f t133).bind fun t135 => ((impl_CodeLen.f t134).bind fun t136 => (if t135 < 5 then (laws_FnCodes.j0 k t133 t134 t135 t136 true) else (if t135 > 30 then (laws_FnCodes.j0 k t133 t134 t135 t136 true) else (if t136 < 5 then (laws_FnCodes.j0 k t133 t134 t135 t136 true) else (if t136 > 30 then (laws_FnCodes.j0 k t133 t134 t135 t136 true) else ((impl_CodeOf.f t133).bind fun t137 => (if 0 ≤ (IntKind.u64.wrap (t135)) then (laws_FnCodes.j0 k t133 t134 t135 t136 (decide (t137 ≥ (shl .i64 1 (IntKind.u64.wrap (t135)))))) else (none)))))))))) = some r := H
  have A4 := Aside0.mk A40
  clear A40
  replace H := Option.bind_eq_some_iff.mp H
  obtain ⟨t134, A50, H⟩ := H
  replace H : ((impl_CodeLen.f t133).bind fun t135 => ((impl_CodeLen.f t134).bind fun t136 => (if t135 < 5 then (laws_FnCodes.j0 k t133 t134 t135 t136 true) else (if t135 > 30 then (laws_FnCodes.j0 k t133 t134 t135 t136 true) else (if t136 < 5 then (laws_FnCodes.j0 k t133 t134 t135 t136 true) else (if t136 > 30 then (laws_FnCodes.j0 k t133 t134 t135 t136 true) else ((impl_CodeOf.f t133).bind fun t137 => (if 0 ≤ (IntKind.u64.wrap (t135)) then (laws_FnCodes.j0 k t133 t134 t135 t136 (decide (t137 ≥ (shl .i64 1 (IntKind.u64.wrap (t135)))))) else (none))))))))) = some r := H
  have A5 := Aside0.mk A50
  clear A50
  replace H := Option.bind_eq_some_iff.mp H
  obtain ⟨t135, A60, H⟩ := H
  replace H : ((impl_CodeLen.f t134).bind fun t136 => (if t135 < 5 then (laws_FnCodes.j0 k t133 t134 t135 t136 true) else (if t135 > 30 then (laws_FnCodes.j0 k t133 t134 t135 t136 true) else (if t136 < 5 then (laws_FnCodes.j0 k t133 t134 t135 t136 true) else (if t136 > 30 then (laws_FnCodes.j0 k t133 t134 t135 t136 true) else ((impl_CodeOf.f t133).bind fun t137 => (if 0 ≤ (IntKind.u64.wrap (t135)) then (laws_FnCodes.j0 k t133 t134 t135 t136 (decide (t137 ≥ (shl .i64 1 (IntKind.u64.wrap (t135)))))) else (none)))))))) = some r := H
  have A6 := Aside0.mk A60
  clear A60
  replace H := Option.bind_eq_some_iff.mp H
  obtain ⟨t136, A70, H⟩ := H
  replace H : (if t135 < 5 then (laws_FnCodes.j0 k t133 t134 t135 t136 true) else (if t135 > 30 then (laws_FnCodes.j0 k t133 t134 t135 t136 true) else (if t136 < 5 then (laws_FnCodes.j0 k t133 t134 t135 t136 true) else (if t136 > 30 then (laws_FnCodes.j0 k t133 t134 t135 t136 true) else ((impl_CodeOf.f t133).bind fun t137 => (if 0 ≤ (IntKind.u64.wrap (t135)) then (laws_FnCodes.j0 k t133 t134 t135 t136 (decide (t137 ≥ (shl .i64 1 (IntKind.u64.wrap (t135)))))) else (none))))))) = some r := H
  have A7 := Aside0.mk A70
  clear A70
  have HC8 := Aside0.mk H
  clear H
  go_enter Tryd.func6, Tryd.ntmps6
  go_upto_region 7 with (first | ((with_reducible refine gate_callee (f := 20) rfl ?_); refine goesL_ (some 8) rfl rfl Tryd.func20 (by kernel_rfl) rfl #[.slice A0 l0.length c0] rfl (by (try simp only [List.map_toArray, List.map_cons, List.map_nil]); first | done | rfl | (simp only [List.length_drop, List.length_take]; rfl)) ?_; (with_reducible refine (laws_big.calls _ _ l0 false _ ?side1 ?side2 A2.out).mono ?_); (case side1 => repeat (first | exact HR0.out | (with_reducible refine Kd.C_alloc ?_ _) | (with_reducible refine Kd.C_drewN ?_ _) | (with_reducible refine Kd.C_drew ?_))); (case side2 => exact HC0.out); rintro e w' ⟨rfl, ⟨nd, rfl⟩⟩; refine ⟨_, rfl, ?_⟩) | ((with_reducible refine gate_callee (f := 21) rfl ?_); refine goesL_ (some 10) rfl rfl Tryd.func21 (by kernel_rfl) rfl #[.slice A0 l0.length c0, .int .i64 2] rfl (by (try simp only [List.map_toArray, List.map_cons, List.map_nil]); first | done | rfl | (simp only [List.length_drop, List.length_take]; rfl)) ?_; (with_reducible refine (laws_at.calls _ _ l0 2 t133 _ ?side1 ?side2 A4.out).mono ?_); (case side1 => repeat (first | exact HR0.out | (with_reducible refine Kd.C_alloc ?_ _) | (with_reducible refine Kd.C_drewN ?_ _) | (with_reducible refine Kd.C_drew ?_))); (case side2 => exact HC0.out); rintro e w' ⟨rfl, ⟨nd, rfl⟩⟩; refine ⟨_, rfl, ?_⟩) | ((with_reducible refine gate_callee (f := 21) rfl ?_); refine goesL_ (some 12) rfl rfl Tryd.func21 (by kernel_rfl) rfl #[.slice A0 l0.length c0, .int .i64 3] rfl (by (try simp only [List.map_toArray, List.map_cons, List.map_nil]); first | done | rfl | (simp only [List.length_drop, List.length_take]; rfl)) ?_; (with_reducible refine (laws_at.calls _ _ l0 3 t134 _ ?side1 ?side2 A5.out).mono ?_); (case side1 => repeat (first | exact HR0.out | (with_reducible refine Kd.C_alloc ?_ _) | (with_reducible refine Kd.C_drewN ?_ _) | (with_reducible refine Kd.C_drew ?_))); (case side2 => exact HC0.out); rintro e w' ⟨rfl, ⟨nd, rfl⟩⟩; refine ⟨_, rfl, ?_⟩) | ((with_reducible refine gate_callee (f := 15) rfl ?_); refine goesL_ (some 14) rfl rfl Tryd.func15 (by kernel_rfl) rfl #[.int .i64 t133] rfl (by (try simp only [List.map_toArray, List.map_cons, List.map_nil]); first | done | rfl | (simp only [List.length_drop, List.length_take]; rfl)) ?_; (with_reducible refine (impl_CodeLen.calls t133 t135 _ ?side1 A6.out).mono ?_); (case side1 => first | exact ht | (refine tb_below ht ?_; repeat (first | (with_reducible first | exact HB.out | apply below_alloc | apply pw_below_drewN | apply below_drew1) | exact HB.out))); rintro e w9 ⟨rfl, hb⟩; refine ⟨_, rfl, ?_⟩; have n0_ := Aside0.mk (below_step (by repeat (first | (with_reducible first | exact HB.out | apply below_alloc | apply pw_below_drewN | apply below_drew1) | exact HB.out)) hb); clear HB; have HB := n0_; clear n0_; (try clear hb); (try clear hb2); (try clear hk); (try clear hi)) | ((with_reducible refine gate_callee (f := 15) rfl ?_); refine goesL_ (some 16) rfl rfl Tryd.func15 (by kernel_rfl) rfl #[.int .i64 t134] rfl (by (try simp only [List.map_toArray, List.map_cons, List.map_nil]); first | done | rfl | (simp only [List.length_drop, List.length_take]; rfl)) ?_; (with_reducible refine (impl_CodeLen.calls t134 t136 _ ?side1 A7.out).mono ?_); (case side1 => first | exact ht | (refine tb_below ht ?_; repeat (first | (with_reducible first | exact HB.out | apply below_alloc | apply pw_below_drewN | apply below_drew1) | exact HB.out))); rintro e w10 ⟨rfl, hb⟩; refine ⟨_, rfl, ?_⟩; have n0_ := Aside0.mk (below_step (by repeat (first | (with_reducible first | exact HB.out | apply below_alloc | apply pw_below_drewN | apply below_drew1) | exact HB.out)) hb); clear HB; have HB := n0_; clear n0_; (try clear hb); (try clear hb2); (try clear hk); (try clear hi)))
  (try simp only [Act.put, List.setIfInBounds_toArray, List.set_cons_zero, List.set_cons_succ])
  go_cut [38] (fun v38 wc => ∃ (kq : Nat) (x38_7 : Bool), v38 = .bool x38_7 ∧ Aside0 (laws_FnCodes.j0 kq t133 t134 t135 t136 x38_7 = some r) ∧ Aside0 (kq ≤ k) ∧ Aside0 (Below w.heap.size w wc))
  case first =>
   have H := HC8.out
   clear HC8
   by_cases c11 : t135 < 5
   ·
    rw [if_pos c11] at H
    have c11b0 : decide (t135 < 5) = true := decide_eq_true c11
    clear c11
    (first | rw [c11b0] | (simp only [i64_w, i32_w]; rw [c11b0]) | rw [c11b1] | skip)
    have H' := Aside0.mk H
    clear H
    go_wp2
    go_meet
    case rel => exact ⟨_, (true), (by first | rfl | (simp; done) | (simp [*]; done)), H', ⟨by first | omega | exact Nat.le_refl _⟩, ⟨by repeat (first | (with_reducible first | exact HB.out | apply below_alloc | apply pw_below_drewN | apply below_drew1) | exact HB.out)⟩⟩
   ·
    rw [if_neg c11] at H
    have c11b0 : decide (t135 < 5) = false := decide_eq_false c11
    clear c11
    (first | rw [c11b0] | (simp only [i64_w, i32_w]; rw [c11b0]) | rw [c11b1] | skip)
    by_cases c12 : t135 > 30
    ·
     rw [if_pos c12] at H
     have c12b0 : decide (30 < t135) = true := decide_eq_true c12
     clear c12
     have H' := Aside0.mk H
     clear H
     go_wp2
     go_meet
     case rel => exact ⟨_, (true), (by first | rfl | (simp; done) | (simp [*]; done)), H', ⟨by first | omega | exact Nat.le_refl _⟩, ⟨by repeat (first | (with_reducible first | exact HB.out | apply below_alloc | apply pw_below_drewN | apply below_drew1) | exact HB.out)⟩⟩
    ·
     rw [if_neg c12] at H
     have c12b0 : decide (30 < t135) = false := decide_eq_false c12
     clear c12
     by_cases c13 : t136 < 5
     ·
      rw [if_pos c13] at H
      have c13b0 : decide (t136 < 5) = true := decide_eq_true c13
      clear c13
      have H' := Aside0.mk H
      clear H
      go_wp2
      go_meet
      case rel => exact ⟨_, (true), (by first | rfl | (simp; done) | (simp [*]; done)), H', ⟨by first | omega | exact Nat.le_refl _⟩, ⟨by repeat (first | (with_reducible first | exact HB.out | apply below_alloc | apply pw_below_drewN | apply below_drew1) | exact HB.out)⟩⟩
     ·
      rw [if_neg c13] at H
      have c13b0 : decide (t136 < 5) = false := decide_eq_false c13
      clear c13
      by_cases c14 : t136 > 30
      ·
       rw [if_pos c14] at H
       have c14b0 : decide (30 < t136) = true := decide_eq_true c14
       clear c14
       have H' := Aside0.mk H
       clear H
       go_wp2
       go_meet
       case rel => exact ⟨_, (true), (by first | rfl | (simp; done) | (simp [*]; done)), H', ⟨by first | omega | exact Nat.le_refl _⟩, ⟨by repeat (first | (with_reducible first | exact HB.out | apply below_alloc | apply pw_below_drewN | apply below_drew1) | exact HB.out)⟩⟩
      ·
       rw [if_neg c14] at H
       have c14b0 : decide (30 < t136) = false := decide_eq_false c14
       clear c14
       replace H := Option.bind_eq_some_iff.mp H
       obtain ⟨t137, A150, H⟩ := H
       replace H : (if 0 ≤ (IntKind.u64.wrap (t135)) then (laws_FnCodes.j0 k t133 t134 t135 t136 (decide (t137 ≥ (shl .i64 1 (IntKind.u64.wrap (t135)))))) else (none)) = some r := H
       have A15 := Aside0.mk A150
       clear A150
       obtain ⟨ji16, hji16⟩ : ∃ j_ : Int, (IntKind.u64.wrap (t135)) = j_ := ⟨_, rfl⟩
       replace H : (if 0 ≤ (ji16) then (laws_FnCodes.j0 k t133 t134 t135 t136 (decide (t137 ≥ (shl .i64 1 (ji16))))) else (none)) = some r := by first | (rw [hji16] at H; exact H) | (simp only [hji16] at H ⊢; exact H)
       (try rw [hji16] at A15)
       by_cases c17 : 0 ≤ (ji16)
       ·
        rw [if_pos c17] at H
        have c17b0 := eq_true c17
        have c17b1 : decide (0 ≤ (ji16)) = true := decide_eq_true c17
        clear c17
        obtain ⟨ji18, hji18⟩ : ∃ j_ : Int, (shl .i64 1 (ji16)) = j_ := ⟨_, rfl⟩
        replace H : (laws_FnCodes.j0 k t133 t134 t135 t136 (decide (t137 ≥ (ji18)))) = some r := by first | (rw [hji18] at H; exact H) | (simp only [hji18] at H ⊢; exact H)
        (try rw [hji18] at A15)
        have hji18_ : (IntKind.i64.wrap (1 * 2 ^ min (ji16).toNat 64)) = ji18 := hji18
        have hji18z : (ji16) ≤ 64 → (IntKind.i64.wrap (1 * 2 ^ (ji16).toNat)) = ji18 := shl_small hji18
        have hji18u : (IntKind.i64.wrap (2 ^ min (ji16).toNat 64)) = ji18 := by have h_ := hji18_; rw [Int.one_mul] at h_; exact h_
        have hji18v : (ji16) ≤ 64 → (IntKind.i64.wrap (2 ^ (ji16).toNat)) = ji18 := fun hle_ => by have h_ := hji18z hle_; rw [Int.one_mul] at h_; exact h_
        have hji18y : (wrap64 (1 * 2 ^ min (ji16).toNat 64)) = ji18 := (i64_w _).symm.trans hji18_
        have hji18x : (ji16) ≤ 64 → (wrap64 (1 * 2 ^ (ji16).toNat)) = ji18 := fun h_ => (i64_w _).symm.trans (hji18z h_)
        have H' := Aside0.mk H
        clear H
        go_wp2_with (first | (go_at_call 19; (with_reducible refine (impl_CodeOf.calls t133 t137 _ ?side1 A15.out).mono ?_); (case side1 => first | exact ht | (refine tb_below ht ?_; repeat (first | (with_reducible first | exact HB.out | apply below_alloc | apply pw_below_drewN | apply below_drew1) | exact HB.out))); rintro e w19 ⟨rfl, hb⟩; have n0_ := Aside0.mk (below_step (by repeat (first | (with_reducible first | exact HB.out | apply below_alloc | apply pw_below_drewN | apply below_drew1) | exact HB.out)) hb); clear HB; have HB := n0_; clear n0_; (try clear hb); (try clear hb2); (try clear hk); (try clear hi)))
        go_meet
        case rel => exact ⟨_, (decide (t137 ≥ (ji18))), (by first | rfl | (simp; done) | (simp only [← hji18] <;> (first | rfl | simp)) | (simp [*]; done)), H', ⟨by first | omega | exact Nat.le_refl _⟩, ⟨by repeat (first | (with_reducible first | exact HB.out | apply below_alloc | apply pw_below_drewN | apply below_drew1) | exact HB.out)⟩⟩
       ·
        rw [if_neg c17] at H
        exact absurd H (by simp)
  case rest =>
   clear HC8
   try clear c1
   try clear c2
   try clear p2
   try clear c3
   try clear c6
   try clear p6
   try clear c11
   try clear c11b0
   try clear c11b1
   try clear c12
   try clear c12b0
   try clear c13
   try clear c13b0
   try clear c14
   try clear c14b0
   try clear c15
   try clear c17
   try clear c17b0
   try clear c17b1
   obtain ⟨kq, x38_7, rfl, HA, HJ7, HB⟩ := hcut
   cases kq with
   | zero => exact absurd HA.out (by simp [laws_FnCodes.j0])
   | succ kj7 =>
    have H := HA.out
    clear HA
    simp only [laws_FnCodes.j0] at H
    by_cases c20 : x38_7 = true
    ·
     subst c20
     have H1 : (some false) = some r := by rw [if_pos rfl] at H; exact H
     clear H
     have H := H1
     clear H1
     obtain rfl := Option.some.inj H
     go_wp2
     go_ret
     exact ⟨by first | rfl | (simp [errW_none, errW_some] <;> rfl) | (simp [*, errW_none, errW_some] <;> rfl), by repeat (first | (with_reducible first | exact HB.out | apply below_alloc | apply pw_below_drewN | apply below_drew1) | exact HB.out)⟩
    ·
     replace c20 := Bool.eq_false_iff.mpr c20
     subst c20
     have H1 : (if t133 = t134 then ((impl_CodeOf.f t133).bind fun t138 => ((spec_CodeOf.f kj7 t133).bind fun t139 => (some (t138 == t139)))) else (if t135 > t136 then ((impl_CodeOf.f t133).bind fun t140 => (if 0 ≤ (IntKind.u64.wrap (wrap64 (t135 - t136))) then ((impl_CodeOf.f t134).bind fun t141 => (some ((shr .i64 t140 (IntKind.u64.wrap (wrap64 (t135 - t136)))) != t141))) else (none))) else ((impl_CodeOf.f t134).bind fun t142 => (if 0 ≤ (IntKind.u64.wrap (wrap64 (t136 - t135))) then ((impl_CodeOf.f t133).bind fun t143 => (some ((shr .i64 t142 (IntKind.u64.wrap (wrap64 (t136 - t135)))) != t143))) else (none))))) = some r := by rw [if_neg (show ¬ (false = true) by decide)] at H; exact H
     clear H
     have H := H1
     clear H1
     by_cases c21 : t133 = t134
     ·
      rw [if_pos c21] at H
      have c21b0 : (t133 == t134) = true := beq_iff_eq.mpr c21
      have c21b1 : (t133 != t134) = false := bne_eq_false_iff_eq.mpr c21
      clear c21
      replace H := Option.bind_eq_some_iff.mp H
      obtain ⟨t138, A220, H⟩ := H
      replace H : ((spec_CodeOf.f kj7 t133).bind fun t139 => (some (t138 == t139))) = some r := H
      have A22 := Aside0.mk A220
      clear A220
      replace H := Option.bind_eq_some_iff.mp H
      obtain ⟨t139, A230, H⟩ := H
      replace H : (some (t138 == t139)) = some r := H
      have A23 := Aside0.mk A230
      clear A230
      obtain rfl := Option.some.inj H
      go_wp2_with (first | ((with_reducible refine gate_callee (f := 19) rfl ?_); refine goesL_ (some 43) rfl rfl Tryd.func19 (by kernel_rfl) rfl #[.int .i64 t133] rfl (by (try simp only [List.map_toArray, List.map_cons, List.map_nil]); first | done | rfl | (simp only [List.length_drop, List.length_take]; rfl)) ?_; (with_reducible refine (impl_CodeOf.calls t133 t138 _ ?side1 A22.out).mono ?_); (case side1 => first | exact ht | (refine tb_below ht ?_; repeat (first | (with_reducible first | exact HB.out | apply below_alloc | apply pw_below_drewN | apply below_drew1) | exact HB.out))); rintro e w24 ⟨rfl, hb⟩; refine ⟨_, rfl, ?_⟩; have n0_ := Aside0.mk (below_step (by repeat (first | (with_reducible first | exact HB.out | apply below_alloc | apply pw_below_drewN | apply below_drew1) | exact HB.out)) hb); clear HB; have HB := n0_; clear n0_; (try clear hb); (try clear hb2); (try clear hk); (try clear hi)) | ((with_reducible refine gate_callee (f := 18) rfl ?_); refine goesL_ (some 45) rfl rfl Tryd.func18 (by kernel_rfl) rfl #[.int .i64 t133] rfl (by (try simp only [List.map_toArray, List.map_cons, List.map_nil]); first | done | rfl | (simp only [List.length_drop, List.length_take]; rfl)) ?_; (with_reducible refine (spec_CodeOf.calls kj7 t133 t139 _ A23.out).mono ?_); rintro e w25 ⟨rfl, hb⟩; refine ⟨_, rfl, ?_⟩; have n0_ := Aside0.mk (below_step (by repeat (first | (with_reducible first | exact HB.out | apply below_alloc | apply pw_below_drewN | apply below_drew1) | exact HB.out)) hb); clear HB; have HB := n0_; clear n0_; (try clear hb); (try clear hb2); (try clear hk); (try clear hi)))
      go_ret
      exact ⟨by first | rfl | (simp [errW_none, errW_some] <;> rfl) | (simp [*, errW_none, errW_some] <;> rfl), by repeat (first | (with_reducible first | exact HB.out | apply below_alloc | apply pw_below_drewN | apply below_drew1) | exact HB.out)⟩
     ·
      rw [if_neg c21] at H
      have c21b0 : (t133 == t134) = false := beq_eq_false_iff_ne.mpr c21
      have c21b1 : (t133 != t134) = true := bne_iff_ne.mpr c21
      by_cases c26 : t135 > t136
      ·
       rw [if_pos c26] at H
       have c26b0 : decide (t136 < t135) = true := decide_eq_true c26
       clear c26
       replace H := Option.bind_eq_some_iff.mp H
       obtain ⟨t140, A270, H⟩ := H
       replace H : (if 0 ≤ (IntKind.u64.wrap (wrap64 (t135 - t136))) then ((impl_CodeOf.f t134).bind fun t141 => (some ((shr .i64 t140 (IntKind.u64.wrap (wrap64 (t135 - t136)))) != t141))) else (none)) = some r := H
       have A27 := Aside0.mk A270
       clear A270
       obtain ⟨ji28, hji28⟩ : ∃ j_ : Int, (IntKind.u64.wrap (wrap64 (t135 - t136))) = j_ := ⟨_, rfl⟩
       replace H : (if 0 ≤ (ji28) then ((impl_CodeOf.f t134).bind fun t141 => (some ((shr .i64 t140 (ji28)) != t141))) else (none)) = some r := by first | (rw [hji28] at H; exact H) | (simp only [hji28] at H ⊢; exact H)
       (try rw [hji28] at A27)
       by_cases c29 : 0 ≤ (ji28)
       ·
        rw [if_pos c29] at H
        have c29b0 := eq_true c29
        have c29b1 : decide (0 ≤ (ji28)) = true := decide_eq_true c29
        clear c29
        obtain ⟨ji30, hji30⟩ : ∃ j_ : Int, (shr .i64 t140 (ji28)) = j_ := ⟨_, rfl⟩
        replace H : ((impl_CodeOf.f t134).bind fun t141 => (some ((ji30) != t141))) = some r := by first | (rw [hji30] at H; exact H) | (simp only [hji30] at H ⊢; exact H)
        (try rw [hji30] at A27)
        have hji30_ : (t140 / 2 ^ min (ji28).toNat 64) = ji30 := hji30
        have hji30z : (ji28) ≤ 64 → (t140 / 2 ^ (ji28).toNat) = ji30 := shr_small hji30
        replace H := Option.bind_eq_some_iff.mp H
        obtain ⟨t141, A310, H⟩ := H
        replace H : (some ((ji30) != t141)) = some r := H
        have A31 := Aside0.mk A310
        clear A310
        obtain rfl := Option.some.inj H
        go_wp2_with (first | ((with_reducible refine gate_callee (f := 19) rfl ?_); refine goesL_ (some 51) rfl rfl Tryd.func19 (by kernel_rfl) rfl #[.int .i64 t133] rfl (by (try simp only [List.map_toArray, List.map_cons, List.map_nil]); first | done | rfl | (simp only [List.length_drop, List.length_take]; rfl)) ?_; (with_reducible refine (impl_CodeOf.calls t133 t140 _ ?side1 A27.out).mono ?_); (case side1 => first | exact ht | (refine tb_below ht ?_; repeat (first | (with_reducible first | exact HB.out | apply below_alloc | apply pw_below_drewN | apply below_drew1) | exact HB.out))); rintro e w32 ⟨rfl, hb⟩; refine ⟨_, rfl, ?_⟩; have n0_ := Aside0.mk (below_step (by repeat (first | (with_reducible first | exact HB.out | apply below_alloc | apply pw_below_drewN | apply below_drew1) | exact HB.out)) hb); clear HB; have HB := n0_; clear n0_; (try clear hb); (try clear hb2); (try clear hk); (try clear hi)) | ((with_reducible refine gate_callee (f := 19) rfl ?_); refine goesL_ (some 58) rfl rfl Tryd.func19 (by kernel_rfl) rfl #[.int .i64 t134] rfl (by (try simp only [List.map_toArray, List.map_cons, List.map_nil]); first | done | rfl | (simp only [List.length_drop, List.length_take]; rfl)) ?_; (with_reducible refine (impl_CodeOf.calls t134 t141 _ ?side1 A31.out).mono ?_); (case side1 => first | exact ht | (refine tb_below ht ?_; repeat (first | (with_reducible first | exact HB.out | apply below_alloc | apply pw_below_drewN | apply below_drew1) | exact HB.out))); rintro e w33 ⟨rfl, hb⟩; refine ⟨_, rfl, ?_⟩; have n0_ := Aside0.mk (below_step (by repeat (first | (with_reducible first | exact HB.out | apply below_alloc | apply pw_below_drewN | apply below_drew1) | exact HB.out)) hb); clear HB; have HB := n0_; clear n0_; (try clear hb); (try clear hb2); (try clear hk); (try clear hi)))
        go_ret
        exact ⟨by first | rfl | (simp [errW_none, errW_some] <;> rfl) | (simp only [← hji28, ← hji30]; first | rfl | (simp [errW_none, errW_some] <;> rfl)) | (simp [*, errW_none, errW_some] <;> rfl), by repeat (first | (with_reducible first | exact HB.out | apply below_alloc | apply pw_below_drewN | apply below_drew1) | exact HB.out)⟩
       ·
        rw [if_neg c29] at H
        exact absurd H (by simp)
      ·
       rw [if_neg c26] at H
       have c26b0 : decide (t136 < t135) = false := decide_eq_false c26
       clear c26
       replace H := Option.bind_eq_some_iff.mp H
       obtain ⟨t142, A340, H⟩ := H
       replace H : (if 0 ≤ (IntKind.u64.wrap (wrap64 (t136 - t135))) then ((impl_CodeOf.f t133).bind fun t143 => (some ((shr .i64 t142 (IntKind.u64.wrap (wrap64 (t136 - t135)))) != t143))) else (none)) = some r := H
       have A34 := Aside0.mk A340
       clear A340
       obtain ⟨ji35, hji35⟩ : ∃ j_ : Int, (IntKind.u64.wrap (wrap64 (t136 - t135))) = j_ := ⟨_, rfl⟩
       replace H : (if 0 ≤ (ji35) then ((impl_CodeOf.f t133).bind fun t143 => (some ((shr .i64 t142 (ji35)) != t143))) else (none)) = some r := by first | (rw [hji35] at H; exact H) | (simp only [hji35] at H ⊢; exact H)
       (try rw [hji35] at A34)
       by_cases c36 : 0 ≤ (ji35)
       ·
        rw [if_pos c36] at H
        have c36b0 := eq_true c36
        have c36b1 : decide (0 ≤ (ji35)) = true := decide_eq_true c36
        clear c36
        obtain ⟨ji37, hji37⟩ : ∃ j_ : Int, (shr .i64 t142 (ji35)) = j_ := ⟨_, rfl⟩
        replace H : ((impl_CodeOf.f t133).bind fun t143 => (some ((ji37) != t143))) = some r := by first | (rw [hji37] at H; exact H) | (simp only [hji37] at H ⊢; exact H)
        (try rw [hji37] at A34)
        have hji37_ : (t142 / 2 ^ min (ji35).toNat 64) = ji37 := hji37
        have hji37z : (ji35) ≤ 64 → (t142 / 2 ^ (ji35).toNat) = ji37 := shr_small hji37
        replace H := Option.bind_eq_some_iff.mp H
        obtain ⟨t143, A380, H⟩ := H
        replace H : (some ((ji37) != t143)) = some r := H
        have A38 := Aside0.mk A380
        clear A380
        obtain rfl := Option.some.inj H
        go_wp2_with (first | ((with_reducible refine gate_callee (f := 19) rfl ?_); refine goesL_ (some 61) rfl rfl Tryd.func19 (by kernel_rfl) rfl #[.int .i64 t134] rfl (by (try simp only [List.map_toArray, List.map_cons, List.map_nil]); first | done | rfl | (simp only [List.length_drop, List.length_take]; rfl)) ?_; (with_reducible refine (impl_CodeOf.calls t134 t142 _ ?side1 A34.out).mono ?_); (case side1 => first | exact ht | (refine tb_below ht ?_; repeat (first | (with_reducible first | exact HB.out | apply below_alloc | apply pw_below_drewN | apply below_drew1) | exact HB.out))); rintro e w39 ⟨rfl, hb⟩; refine ⟨_, rfl, ?_⟩; have n0_ := Aside0.mk (below_step (by repeat (first | (with_reducible first | exact HB.out | apply below_alloc | apply pw_below_drewN | apply below_drew1) | exact HB.out)) hb); clear HB; have HB := n0_; clear n0_; (try clear hb); (try clear hb2); (try clear hk); (try clear hi)) | ((with_reducible refine gate_callee (f := 19) rfl ?_); refine goesL_ (some 68) rfl rfl Tryd.func19 (by kernel_rfl) rfl #[.int .i64 t133] rfl (by (try simp only [List.map_toArray, List.map_cons, List.map_nil]); first | done | rfl | (simp only [List.length_drop, List.length_take]; rfl)) ?_; (with_reducible refine (impl_CodeOf.calls t133 t143 _ ?side1 A38.out).mono ?_); (case side1 => first | exact ht | (refine tb_below ht ?_; repeat (first | (with_reducible first | exact HB.out | apply below_alloc | apply pw_below_drewN | apply below_drew1) | exact HB.out))); rintro e w40 ⟨rfl, hb⟩; refine ⟨_, rfl, ?_⟩; have n0_ := Aside0.mk (below_step (by repeat (first | (with_reducible first | exact HB.out | apply below_alloc | apply pw_below_drewN | apply below_drew1) | exact HB.out)) hb); clear HB; have HB := n0_; clear n0_; (try clear hb); (try clear hb2); (try clear hk); (try clear hi)))
        go_ret
        exact ⟨by first | rfl | (simp [errW_none, errW_some] <;> rfl) | (simp only [← hji35, ← hji37]; first | rfl | (simp [errW_none, errW_some] <;> rfl)) | (simp [*, errW_none, errW_some] <;> rfl), by repeat (first | (with_reducible first | exact HB.out | apply below_alloc | apply pw_below_drewN | apply below_drew1) | exact HB.out)⟩
       ·
        rw [if_neg c36] at H
        exact absurd H (by simp)

/-- THE ONE PURE STATEMENT of laws_FnCodes: yours. -/
def laws_FnCodes.Pure : Prop := ∀ (l0 : List Int), l0.length ≤ maxLen → l0.length * 1 ≤ 140737488351232 → (∀ x ∈ l0, (Lit.int .u8 x).wf = true) → ∃ k, laws_FnCodes.f k l0 = some true
theorem laws_FnCodes.walk (P : laws_FnCodes.Pure) (a0 : Option Addr) (len0 cap0 : Nat) (z0 : List Int) (w : World) (w0 : (a0 = none ∧ len0 = 0 ∧ cap0 = 0 ∧ z0 = []) ∨ ∃ x, a0 = some x ∧ len0 ≤ cap0 ∧ cap0 ≤ maxLen ∧ z0.length = cap0 ∧ (∀ i, i < z0.length → w.cell? (x.add i) = some (.int .u8 (z0.getD i 0))) ∧ ∀ n ∈ z0, (Lit.int .u8 n).wf = true) (y0 : len0 * 1 ≤ 140737488351232) (ht : TB w) :
  Calls Tryd.prog 6 #[.slice a0 len0 cap0] w fun e w' => e = .returned (.bool true) ∧ Below w.heap.size w w' := by
 obtain ⟨l0, rfl, hr0, hm0, hw0, hc0⟩ := ReadsInt.ofRowC w0
 obtain ⟨k, h⟩ := P l0 hm0 y0 hw0
 refine (laws_FnCodes.calls k _ _ l0 true w (Kd.C_of_reads (d := (0 : Int)) (h1 := fun _ => rfl) hr0) hc0 ht h).mono ?_
 rintro e w' ⟨rfl, hd⟩
 exact ⟨rfl, hd⟩

end Go.Proofs.YthflimnpiglgbaaDoor.A
