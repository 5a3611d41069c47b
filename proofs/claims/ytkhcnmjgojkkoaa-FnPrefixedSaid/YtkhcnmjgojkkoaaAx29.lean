/- Written by a program of this session, out of the translation: functions as plain Lean functions, and that the machine's calls answer as they do. Condition: none beyond each theorem's own. -/
import Derived.Test.YtkhcnmjgojkkoaaAx0
import Derived.Test.YtkhcnmjgojkkoaaAx7
import Derived.Test.YtkhcnmjgojkkoaaAx23
import Derived.Test.YtkhcnmjgojkkoaaAx27
import Derived.Test.YtkhcnmjgojkkoaaAx28
namespace Go.Proofs.Ytkhcnmjgojkkoaa.A
open Go.RowKit Go.Proofs.YtkhcnmjgojkkoaaW.PrintWords Go.Proofs.YtkhcnmjgojkkoaaW.PrintLast Go.Proofs.YtkhcnmjgojkkoaaW.PrintMore
attribute [local go_sem] max2_int min2_int max_two min_two max_three min_three max_four min_four   -- for this text's walks alone
set_option linter.unusedVariables false
set_option linter.unusedSimpArgs false

/-! ### laws_FnPrefixed: function 5 -/
mutual
def laws_FnPrefixed.j0 : Nat → List Int → Int → Int → Int → List Int → Bool → Option (Bool)
 | 0, _, _, _, _, _, _ => none
 | k + 1, x3, x4, x5, x6, x7, x41 => if x41 = true then (some ((x7.length : Int) == (x3.length : Int))) else (if x6 > 16777216 then (laws_FnPrefixed.j1 k x3 x4 x5 16777216 x7) else (laws_FnPrefixed.j1 k x3 x4 x5 x6 x7))
def laws_FnPrefixed.j1 : Nat → List Int → Int → Int → Int → List Int → Option (Bool)
 | 0, _, _, _, _, _ => none
 | k + 1, x3, x4, x5, x6, x7 => if x6 < 0 then (laws_FnPrefixed.j2 k x3 x4 x5 0 x7) else (laws_FnPrefixed.j2 k x3 x4 x5 x6 x7)
def laws_FnPrefixed.j2 : Nat → List Int → Int → Int → Int → List Int → Option (Bool)
 | 0, _, _, _, _, _ => none
 | k + 1, x3, x4, x5, x6, x7 => (impl_GetPrefix.f k x7 (x3.length : Int) x4).bind fun bt327 => (if 0 ≤ (wrap64 ((x7.length : Int) - 1)) then (if (wrap64 ((x7.length : Int) - 1)) ≤ (x7.length : Int) then ((impl_GetPrefix.f k (x7.take ((wrap64 ((x7.length : Int) - 1)) : Int).toNat) (x3.length : Int) x4).bind fun bt334 => (if bt327.2.2 = true then (if bt327.1 = x6 then (if bt327.2.1 = (x7.length : Int) then (if bt334.2.2 = true then (some false) else (if 0 ≤ (x3.length : Int) then (if (x3.length : Int) < (x7.length : Int) then (if 0 ≤ (IntKind.u64.wrap (x4)) then (some ((shr .i64 (wrap64 (rd x7 (x3.length : Int))) (IntKind.u64.wrap (x4))) == (shr .i64 x5 (IntKind.u64.wrap (x4))))) else (none)) else (none)) else (none))) else (some false)) else (some false)) else (some false))) else (none)) else (none))
end
def laws_FnPrefixed.f (k : Nat) (l0 : List Int) : Option (Bool) := (laws_big.f l0).bind fun t317 => (if t317 = true then (some true) else ((spec_DrawPutPrefix.f k l0).bind fun bt318 => ((impl_PutPrefix.f k bt318.1 bt318.2.1 bt318.2.2.1 bt318.2.2.2).bind fun t324 => (if bt318.2.1 < 1 then (laws_FnPrefixed.j0 k bt318.1 bt318.2.1 bt318.2.2.1 bt318.2.2.2 t324 true) else (if bt318.2.1 > 8 then (laws_FnPrefixed.j0 k bt318.1 bt318.2.1 bt318.2.2.1 bt318.2.2.2 t324 true) else (if bt318.2.2.1 < 0 then (laws_FnPrefixed.j0 k bt318.1 bt318.2.1 bt318.2.2.1 bt318.2.2.2 t324 true) else (laws_FnPrefixed.j0 k bt318.1 bt318.2.1 bt318.2.2.1 bt318.2.2.2 t324 (decide (bt318.2.2.1 > 255)))))))))
theorem laws_FnPrefixed.mono_l : ∀ k, (∀ y0 y1 y2 y3 y4 y5, LeO (laws_FnPrefixed.j0 k y0 y1 y2 y3 y4 y5) (laws_FnPrefixed.j0 (k + 1) y0 y1 y2 y3 y4 y5)) ∧ (∀ y0 y1 y2 y3 y4, LeO (laws_FnPrefixed.j1 k y0 y1 y2 y3 y4) (laws_FnPrefixed.j1 (k + 1) y0 y1 y2 y3 y4)) ∧ (∀ y0 y1 y2 y3 y4, LeO (laws_FnPrefixed.j2 k y0 y1 y2 y3 y4) (laws_FnPrefixed.j2 (k + 1) y0 y1 y2 y3 y4))
 | 0 => ⟨fun _ _ _ _ _ _ r h => by simp [laws_FnPrefixed.j0] at h, fun _ _ _ _ _ r h => by simp [laws_FnPrefixed.j1] at h, fun _ _ _ _ _ r h => by simp [laws_FnPrefixed.j2] at h⟩
 | k + 1 => by
  obtain ⟨ih0, ih1, ih2⟩ := laws_FnPrefixed.mono_l k
  refine ⟨?_, ?_, ?_⟩
  ·
   intro y0 y1 y2 y3 y4 y5
   unfold laws_FnPrefixed.j0
   repeat' first
   | (with_reducible exact ih0 _ _ _ _ _ _)
   | (with_reducible exact ih1 _ _ _ _ _)
   | (with_reducible exact ih2 _ _ _ _ _)
   | (with_reducible exact impl_GetPrefix.mono _ _ _ _)
   | (with_reducible exact impl_PutPrefix.mono _ _ _ _ _)
   | (with_reducible exact spec_DrawPutPrefix.mono _ _)
   | (with_reducible exact LeO.refl _)
   | (with_reducible exact LeO.none _)
   | (with_reducible refine LeO.ite ?_ ?_)
   | (with_reducible refine LeO.bind ?_ (fun _ => ?_))
   | exact ih0 _ _ _ _ _ _
   | exact ih1 _ _ _ _ _
   | exact ih2 _ _ _ _ _
   | exact impl_GetPrefix.mono _ _ _ _
   | exact impl_PutPrefix.mono _ _ _ _ _
   | exact spec_DrawPutPrefix.mono _ _
   | exact LeO.none _
   | refine LeO.ite ?_ ?_
   | refine LeO.bind ?_ (fun _ => ?_)
  ·
   intro y0 y1 y2 y3 y4
   unfold laws_FnPrefixed.j1
   repeat' first
   | (with_reducible exact ih0 _ _ _ _ _ _)
   | (with_reducible exact ih1 _ _ _ _ _)
   | (with_reducible exact ih2 _ _ _ _ _)
   | (with_reducible exact impl_GetPrefix.mono _ _ _ _)
   | (with_reducible exact impl_PutPrefix.mono _ _ _ _ _)
   | (with_reducible exact spec_DrawPutPrefix.mono _ _)
   | (with_reducible exact LeO.refl _)
   | (with_reducible exact LeO.none _)
   | (with_reducible refine LeO.ite ?_ ?_)
   | (with_reducible refine LeO.bind ?_ (fun _ => ?_))
   | exact ih0 _ _ _ _ _ _
   | exact ih1 _ _ _ _ _
   | exact ih2 _ _ _ _ _
   | exact impl_GetPrefix.mono _ _ _ _
   | exact impl_PutPrefix.mono _ _ _ _ _
   | exact spec_DrawPutPrefix.mono _ _
   | exact LeO.none _
   | refine LeO.ite ?_ ?_
   | refine LeO.bind ?_ (fun _ => ?_)
  ·
   intro y0 y1 y2 y3 y4
   unfold laws_FnPrefixed.j2
   repeat' first
   | (with_reducible exact ih0 _ _ _ _ _ _)
   | (with_reducible exact ih1 _ _ _ _ _)
   | (with_reducible exact ih2 _ _ _ _ _)
   | (with_reducible exact impl_GetPrefix.mono _ _ _ _)
   | (with_reducible exact impl_PutPrefix.mono _ _ _ _ _)
   | (with_reducible exact spec_DrawPutPrefix.mono _ _)
   | (with_reducible exact LeO.refl _)
   | (with_reducible exact LeO.none _)
   | (with_reducible refine LeO.ite ?_ ?_)
   | (with_reducible refine LeO.bind ?_ (fun _ => ?_))
   | exact ih0 _ _ _ _ _ _
   | exact ih1 _ _ _ _ _
   | exact ih2 _ _ _ _ _
   | exact impl_GetPrefix.mono _ _ _ _
   | exact impl_PutPrefix.mono _ _ _ _ _
   | exact spec_DrawPutPrefix.mono _ _
   | exact LeO.none _
   | refine LeO.ite ?_ ?_
   | refine LeO.bind ?_ (fun _ => ?_)
theorem laws_FnPrefixed.mono : ∀ a0 k, LeO (laws_FnPrefixed.f k a0) (laws_FnPrefixed.f (k + 1) a0) := by
 intro a0 k
 obtain ⟨ih0, ih1, ih2⟩ := laws_FnPrefixed.mono_l k
 unfold laws_FnPrefixed.f
 repeat' first
   | (with_reducible exact ih0 _ _ _ _ _ _)
   | (with_reducible exact ih1 _ _ _ _ _)
   | (with_reducible exact ih2 _ _ _ _ _)
   | (with_reducible exact impl_GetPrefix.mono _ _ _ _)
   | (with_reducible exact impl_PutPrefix.mono _ _ _ _ _)
   | (with_reducible exact spec_DrawPutPrefix.mono _ _)
   | (with_reducible exact LeO.refl _)
   | (with_reducible exact LeO.none _)
   | (with_reducible refine LeO.ite ?_ ?_)
   | (with_reducible refine LeO.bind ?_ (fun _ => ?_))
   | exact ih0 _ _ _ _ _ _
   | exact ih1 _ _ _ _ _
   | exact ih2 _ _ _ _ _
   | exact impl_GetPrefix.mono _ _ _ _
   | exact impl_PutPrefix.mono _ _ _ _ _
   | exact spec_DrawPutPrefix.mono _ _
   | exact LeO.none _
   | refine LeO.ite ?_ ?_
   | refine LeO.bind ?_ (fun _ => ?_)
set_option maxHeartbeats 8000000 in
set_option maxRecDepth 100000 in
theorem laws_FnPrefixed.calls (k : Nat) (A0 : Option Addr) (c0 : Nat) (l0 : List Int) (r : Bool) (w : World) (hr0 : Kd.C (Kd.int .u8) w A0 l0.length l0) (hc0 : l0.length ≤ c0) (h : laws_FnPrefixed.f k l0 = some r) :
  Calls Try.prog 5 #[.slice A0 l0.length c0] w fun e w' => e = .returned (.bool r) ∧ Below w.heap.size w w' := by
 have HR0 := Aside0.mk hr0
 have HC0 := Aside0.mk hc0
 clear hr0 hc0
 have HB := Aside0.mk (Below.refl w.heap.size w)
 have H : ((laws_big.f l0).bind fun t317 => (if t317 = true then (some true) else ((spec_DrawPutPrefix.f k l0).bind fun bt318 => ((impl_PutPrefix.f k bt318.1 bt318.2.1 bt318.2.2.1 bt318.2.2.2).bind fun t324 => (if bt318.2.1 < 1 then (laws_FnPrefixed.j0 k bt318.1 bt318.2.1 bt318.2.2.1 bt318.2.2.2 t324 true) else (if bt318.2.1 > 8 then (laws_FnPrefixed.j0 k bt318.1 bt318.2.1 bt318.2.2.1 bt318.2.2.2 t324 true) else (if bt318.2.2.1 < 0 then (laws_FnPrefixed.j0 k bt318.1 bt318.2.1 bt318.2.2.1 bt318.2.2.2 t324 true) else (laws_FnPrefixed.j0 k bt318.1 bt318.2.1 bt318.2.2.1 bt318.2.2.2 t324 (decide (bt318.2.2.1 > 255)))))))))) = some r := h
 clear h
 replace H := Option.bind_eq_some_iff.mp H
 obtain ⟨t317, A20, H⟩ := H
 replace H : (if t317 = true then (some true) else ((spec_DrawPutPrefix.f k l0).bind fun bt318 => ((impl_PutPrefix.f k bt318.1 bt318.2.1 bt318.2.2.1 bt318.2.2.2).bind fun t324 => (if bt318.2.1 < 1 then (laws_FnPrefixed.j0 k bt318.1 bt318.2.1 bt318.2.2.1 bt318.2.2.2 t324 true) else (if bt318.2.1 > 8 then (laws_FnPrefixed.j0 k bt318.1 bt318.2.1 bt318.2.2.1 bt318.2.2.2 t324 true) else (if bt318.2.2.1 < 0 then (laws_FnPrefixed.j0 k bt318.1 bt318.2.1 bt318.2.2.1 bt318.2.2.2 t324 true) else (laws_FnPrefixed.j0 k bt318.1 bt318.2.1 bt318.2.2.1 bt318.2.2.2 t324 (decide (bt318.2.2.1 > 255))))))))) = some r := H
 have A2 := Aside0.mk A20
 clear A20
 by_cases c3 : t317 = true
 ·
  subst c3
  have H1 : (some true) = some r := by rw [if_pos rfl] at H; exact H
  clear H
  have H := H1
  clear H1
  obtain rfl := Option.some.inj H
  go_enter Try.func5, Try.ntmps5
  go_wp2_with (first | ((with_reducible refine gate_callee (f := 26) rfl ?_); refine goesL_ (some 15) rfl rfl Try.func26 (by kernel_rfl) rfl #[.slice A0 l0.length c0] rfl (by (try simp only [List.map_toArray, List.map_cons, List.map_nil]); first | done | rfl | (simp only [List.length_drop, List.length_take]; rfl)) ?_; (with_reducible refine (laws_big.calls _ _ l0 true _ ?side1 ?side2 A2.out).mono ?_); (case side1 => repeat (first | exact HR0.out | (with_reducible refine Kd.C_alloc ?_ _) | (with_reducible refine Kd.C_drewN ?_ _) | (with_reducible refine Kd.C_drew ?_))); (case side2 => exact HC0.out); rintro e w' ⟨rfl, ⟨nd, rfl⟩⟩; refine ⟨_, rfl, ?_⟩))
  go_ret
  exact ⟨by first | rfl | (simp [errW_none, errW_some] <;> rfl) | (simp [*, errW_none, errW_some] <;> rfl), by repeat (first | (with_reducible first | exact HB.out | apply below_alloc | apply pw_below_drewN | apply below_drew1) | exact HB.out)⟩
 ·
  replace c3 := Bool.eq_false_iff.mpr c3
  subst c3
  have H1 : ((spec_DrawPutPrefix.f k l0).bind fun bt318 => ((impl_PutPrefix.f k bt318.1 bt318.2.1 bt318.2.2.1 bt318.2.2.2).bind fun t324 => (if bt318.2.1 < 1 then (laws_FnPrefixed.j0 k bt318.1 bt318.2.1 bt318.2.2.1 bt318.2.2.2 t324 true) else (if bt318.2.1 > 8 then (laws_FnPrefixed.j0 k bt318.1 bt318.2.1 bt318.2.2.1 bt318.2.2.2 t324 true) else (if bt318.2.2.1 < 0 then (laws_FnPrefixed.j0 k bt318.1 bt318.2.1 bt318.2.2.1 bt318.2.2.2 t324 true) else (laws_FnPrefixed.j0 k bt318.1 bt318.2.1 bt318.2.2.1 bt318.2.2.2 t324 (decide (bt318.2.2.1 > 255)))))))) = some r := by rw [if_neg (show ¬ (false = true) by decide)] at H; exact H
  clear H
  have H := H1
  clear H1
  replace H := Option.bind_eq_some_iff.mp H
  obtain ⟨⟨t318, t319, t320, t321⟩, A40, H⟩ := H
  replace H : ((impl_PutPrefix.f k t318 t319 t320 t321).bind fun t324 => (if t319 < 1 then (laws_FnPrefixed.j0 k t318 t319 t320 t321 t324 true) else (if t319 > 8 then (laws_FnPrefixed.j0 k t318 t319 t320 t321 t324 true) else (if t320 < 0 then (laws_FnPrefixed.j0 k t318 t319 t320 t321 t324 true) else (laws_FnPrefixed.j0 k t318 t319 t320 t321 t324 (decide (t320 > 255))))))) = some r := H
  have A4 := Aside0.mk A40
  clear A40
  replace H := Option.bind_eq_some_iff.mp H
  obtain ⟨t324, A50, H⟩ := H
  replace H : (if t319 < 1 then (laws_FnPrefixed.j0 k t318 t319 t320 t321 t324 true) else (if t319 > 8 then (laws_FnPrefixed.j0 k t318 t319 t320 t321 t324 true) else (if t320 < 0 then (laws_FnPrefixed.j0 k t318 t319 t320 t321 t324 true) else (laws_FnPrefixed.j0 k t318 t319 t320 t321 t324 (decide (t320 > 255)))))) = some r := H
  have A5 := Aside0.mk A50
  clear A50
  have HC6 := Aside0.mk H
  clear H
  go_enter Try.func5, Try.ntmps5
  go_upto_region 5 with (first | ((with_reducible refine gate_callee (f := 26) rfl ?_); refine goesL_ (some 15) rfl rfl Try.func26 (by kernel_rfl) rfl #[.slice A0 l0.length c0] rfl (by (try simp only [List.map_toArray, List.map_cons, List.map_nil]); first | done | rfl | (simp only [List.length_drop, List.length_take]; rfl)) ?_; (with_reducible refine (laws_big.calls _ _ l0 false _ ?side1 ?side2 A2.out).mono ?_); (case side1 => repeat (first | exact HR0.out | (with_reducible refine Kd.C_alloc ?_ _) | (with_reducible refine Kd.C_drewN ?_ _) | (with_reducible refine Kd.C_drew ?_))); (case side2 => exact HC0.out); rintro e w' ⟨rfl, ⟨nd, rfl⟩⟩; refine ⟨_, rfl, ?_⟩) | ((with_reducible refine gate_callee (f := 27) rfl ?_); refine goesL_ (some 18) rfl rfl Try.func27 (by kernel_rfl) rfl #[.slice A0 l0.length c0] rfl (by (try simp only [List.map_toArray, List.map_cons, List.map_nil]); first | done | rfl | (simp only [List.length_drop, List.length_take]; rfl)) ?_; (with_reducible refine (spec_DrawPutPrefix.calls k _ _ l0 t318 t319 t320 t321 _ ?side1 ?side2 A4.out).mono ?_); (case side1 => repeat (first | exact HR0.out | (with_reducible refine Kd.C_alloc ?_ _) | (with_reducible refine Kd.C_drewN ?_ _) | (with_reducible refine Kd.C_drew ?_))); (case side2 => exact HC0.out); rintro e w7 ⟨v322, rfl, ho0, hb⟩; refine ⟨_, rfl, ?_⟩; have n0_ := Aside0.mk (Kd.R_lower ho0 (below_size (by repeat (first | (with_reducible first | exact HB.out | apply below_alloc | apply pw_below_drewN | apply below_drew1) | exact HB.out)))); have n1_ := Aside0.mk (below_step (by repeat (first | (with_reducible first | exact HB.out | apply below_alloc | apply pw_below_drewN | apply below_drew1) | exact HB.out)) hb); clear HB; have HO323 := n0_; have HB := n1_; clear n0_ n1_; (try clear hb); (try clear hb2); (try clear hk); (try clear hi); (try clear ho0); obtain ⟨Ao8, co8, eo8⟩ := Kd.R_slice HO323.out; subst eo8) | ((with_reducible refine gate_callee (f := 17) rfl ?_); refine goesL_ (some 27) rfl rfl Try.func17 (by kernel_rfl) rfl #[.slice Ao8 t318.length co8, .int .i64 t319, .int .i64 t320, .int .i64 t321] rfl (by (try simp only [List.map_toArray, List.map_cons, List.map_nil]); first | done | rfl | (simp only [List.length_drop, List.length_take]; rfl)) ?_; (with_reducible refine (impl_PutPrefix.calls k _ _ t318 t319 t320 t321 t324 _ ?side1 ?side2 A5.out).mono ?_); (case side1 => repeat (first | exact (Kd.R_reads' HO323.out).2.2 | (with_reducible refine Kd.C_alloc ?_ _) | (with_reducible refine Kd.C_drewN ?_ _) | (with_reducible refine Kd.C_drew ?_))); (case side2 => exact (Kd.R_reads' HO323.out).2.1); rintro e w9 ⟨v325, rfl, ho0, hb⟩; refine ⟨_, rfl, ?_⟩; have n0_ := Aside0.mk (Kd.R_elder' (by (with_reducible repeat (first | apply Kd.R_alloc | apply Kd.R_drewN | apply Kd.R_drew)); exact HO323.out) (Kd.R_base ho0) hb); have n1_ := Aside0.mk (Kd.R_lower (Kd.R_new' ho0 (Kd.R_lt (by (with_reducible repeat (first | apply Kd.R_alloc | apply Kd.R_drewN | apply Kd.R_drew)); exact HO323.out))) (below_size (by repeat (first | (with_reducible first | exact HB.out | apply below_alloc | apply pw_below_drewN | apply below_drew1) | exact HB.out)))); have n2_ := Aside0.mk (below_step (by repeat (first | (with_reducible first | exact HB.out | apply below_alloc | apply pw_below_drewN | apply below_drew1) | exact HB.out)) hb); clear HO323; clear HB; have HO323 := n0_; have HO326 := n1_; have HB := n2_; clear n0_ n1_ n2_; (try clear hb); (try clear hb2); (try clear hk); (try clear hi); (try clear ho0)))
  (try simp only [Act.put, List.setIfInBounds_toArray, List.set_cons_zero, List.set_cons_succ])
  go_cut [41] (fun v41 wc => ∃ (kq : Nat) (x41_5 : Bool), v41 = .bool x41_5 ∧ Aside0 (laws_FnPrefixed.j0 kq t318 t319 t320 t321 t324 x41_5 = some r) ∧ Aside0 (kq ≤ k) ∧ Aside0 (Kd.R (Kd.int .u8) 5 wc w.heap.size (fun k_ => some k_ ≠ (v325 : Value).ownBlock) (.slice Ao8 t318.length co8) t318) ∧ Aside0 (Kd.R (Kd.int .u8) 5 wc w.heap.size (fun k_ => some k_ ≠ ((.slice Ao8 t318.length co8) : Value).ownBlock) v325 t324) ∧ Aside0 (Below w.heap.size w wc))
  case first =>
   have H := HC6.out
   clear HC6
   by_cases c10 : t319 < 1
   ·
    rw [if_pos c10] at H
    have c10b0 : decide (t319 < 1) = true := decide_eq_true c10
    clear c10
    (first | rw [c10b0] | (simp only [i64_w, i32_w]; rw [c10b0]) | skip)
    have H' := Aside0.mk H
    clear H
    go_wp2
    go_meet
    case rel => exact ⟨_, (true), (by first | rfl | (simp; done) | (simp [*]; done)), H', ⟨by first | omega | exact Nat.le_refl _⟩, ⟨by (with_reducible repeat (first | apply Kd.R_alloc | apply Kd.R_drewN | apply Kd.R_drew)); exact Kd.R_mono HO323.out (fun _ hk => (by first | exact hk.2 | (have hq_ := hk; simp only [ne_eq] at hq_ ⊢; simp only [hq_, not_false_eq_true, and_self])))⟩, ⟨by (with_reducible repeat (first | apply Kd.R_alloc | apply Kd.R_drewN | apply Kd.R_drew)); exact Kd.R_mono HO326.out (fun _ hk => (by first | exact hk.2 | (have hq_ := hk; simp only [ne_eq] at hq_ ⊢; simp only [hq_, not_false_eq_true, and_self])))⟩, ⟨by repeat (first | (with_reducible first | exact HB.out | apply below_alloc | apply pw_below_drewN | apply below_drew1) | exact HB.out)⟩⟩
   ·
    rw [if_neg c10] at H
    have c10b0 : decide (t319 < 1) = false := decide_eq_false c10
    clear c10
    (first | rw [c10b0] | (simp only [i64_w, i32_w]; rw [c10b0]) | skip)
    by_cases c11 : t319 > 8
    ·
     rw [if_pos c11] at H
     have c11b0 : decide (8 < t319) = true := decide_eq_true c11
     clear c11
     have H' := Aside0.mk H
     clear H
     go_wp2
     go_meet
     case rel => exact ⟨_, (true), (by first | rfl | (simp; done) | (simp [*]; done)), H', ⟨by first | omega | exact Nat.le_refl _⟩, ⟨by (with_reducible repeat (first | apply Kd.R_alloc | apply Kd.R_drewN | apply Kd.R_drew)); exact Kd.R_mono HO323.out (fun _ hk => (by first | exact hk.2 | (have hq_ := hk; simp only [ne_eq] at hq_ ⊢; simp only [hq_, not_false_eq_true, and_self])))⟩, ⟨by (with_reducible repeat (first | apply Kd.R_alloc | apply Kd.R_drewN | apply Kd.R_drew)); exact Kd.R_mono HO326.out (fun _ hk => (by first | exact hk.2 | (have hq_ := hk; simp only [ne_eq] at hq_ ⊢; simp only [hq_, not_false_eq_true, and_self])))⟩, ⟨by repeat (first | (with_reducible first | exact HB.out | apply below_alloc | apply pw_below_drewN | apply below_drew1) | exact HB.out)⟩⟩
    ·
     rw [if_neg c11] at H
     have c11b0 : decide (8 < t319) = false := decide_eq_false c11
     clear c11
     by_cases c12 : t320 < 0
     ·
      rw [if_pos c12] at H
      have c12b0 : decide (t320 < 0) = true := decide_eq_true c12
      clear c12
      have H' := Aside0.mk H
      clear H
      go_wp2
      go_meet
      case rel => exact ⟨_, (true), (by first | rfl | (simp; done) | (simp [*]; done)), H', ⟨by first | omega | exact Nat.le_refl _⟩, ⟨by (with_reducible repeat (first | apply Kd.R_alloc | apply Kd.R_drewN | apply Kd.R_drew)); exact Kd.R_mono HO323.out (fun _ hk => (by first | exact hk.2 | (have hq_ := hk; simp only [ne_eq] at hq_ ⊢; simp only [hq_, not_false_eq_true, and_self])))⟩, ⟨by (with_reducible repeat (first | apply Kd.R_alloc | apply Kd.R_drewN | apply Kd.R_drew)); exact Kd.R_mono HO326.out (fun _ hk => (by first | exact hk.2 | (have hq_ := hk; simp only [ne_eq] at hq_ ⊢; simp only [hq_, not_false_eq_true, and_self])))⟩, ⟨by repeat (first | (with_reducible first | exact HB.out | apply below_alloc | apply pw_below_drewN | apply below_drew1) | exact HB.out)⟩⟩
     ·
      rw [if_neg c12] at H
      have c12b0 : decide (t320 < 0) = false := decide_eq_false c12
      clear c12
      have H' := Aside0.mk H
      clear H
      go_wp2
      go_meet
      case rel => exact ⟨_, (decide (t320 > 255)), (by first | rfl | (simp; done) | (simp [*]; done)), H', ⟨by first | omega | exact Nat.le_refl _⟩, ⟨by (with_reducible repeat (first | apply Kd.R_alloc | apply Kd.R_drewN | apply Kd.R_drew)); exact Kd.R_mono HO323.out (fun _ hk => (by first | exact hk.2 | (have hq_ := hk; simp only [ne_eq] at hq_ ⊢; simp only [hq_, not_false_eq_true, and_self])))⟩, ⟨by (with_reducible repeat (first | apply Kd.R_alloc | apply Kd.R_drewN | apply Kd.R_drew)); exact Kd.R_mono HO326.out (fun _ hk => (by first | exact hk.2 | (have hq_ := hk; simp only [ne_eq] at hq_ ⊢; simp only [hq_, not_false_eq_true, and_self])))⟩, ⟨by repeat (first | (with_reducible first | exact HB.out | apply below_alloc | apply pw_below_drewN | apply below_drew1) | exact HB.out)⟩⟩
  case rest =>
   clear HC6
   try clear c1
   try clear c2
   try clear p2
   try clear c3
   try clear c5
   try clear c10
   try clear c10b0
   try clear c11
   try clear c11b0
   try clear c12
   try clear c12b0
   obtain ⟨kq, x41_5, rfl, HA, HJ5, HO_3, HO_7, HB⟩ := hcut
   cases kq with
   | zero => exact absurd HA.out (by simp [laws_FnPrefixed.j0])
   | succ kj5 =>
    have H := HA.out
    clear HA
    simp only [laws_FnPrefixed.j0] at H
    by_cases c13 : x41_5 = true
    ·
     subst c13
     have H1 : (some ((t324.length : Int) == (t318.length : Int))) = some r := by rw [if_pos rfl] at H; exact H
     clear H
     have H := H1
     clear H1
     obtain rfl := Option.some.inj H
     obtain ⟨Ao14, co14, eo14⟩ := Kd.R_slice HO_7.out
     subst eo14
     go_wp2
     go_ret
     exact ⟨by first | rfl | (simp [errW_none, errW_some] <;> rfl) | (simp [*, errW_none, errW_some] <;> rfl), by repeat (first | (with_reducible first | exact HB.out | apply below_alloc | apply pw_below_drewN | apply below_drew1) | exact HB.out)⟩
    ·
     replace c13 := Bool.eq_false_iff.mpr c13
     subst c13
     have H1 : (if t321 > 16777216 then (laws_FnPrefixed.j1 kj5 t318 t319 t320 16777216 t324) else (laws_FnPrefixed.j1 kj5 t318 t319 t320 t321 t324)) = some r := by rw [if_neg (show ¬ (false = true) by decide)] at H; exact H
     clear H
     have H := H1
     clear H1
     have HC15 := Aside0.mk H
     clear H
     go_upto_if 48 with (fail)
     go_cut [6] (fun v6 wc => ∃ (kq : Nat) (x6_14 : Int), v6 = .int .i64 x6_14 ∧ Aside0 (laws_FnPrefixed.j1 kq t318 t319 t320 x6_14 t324 = some r) ∧ Aside0 (kq ≤ kj5) ∧ Aside0 (Kd.R (Kd.int .u8) 5 wc w.heap.size (fun k_ => some k_ ≠ (v325 : Value).ownBlock) (.slice Ao8 t318.length co8) t318) ∧ Aside0 (Kd.R (Kd.int .u8) 5 wc w.heap.size (fun k_ => some k_ ≠ ((.slice Ao8 t318.length co8) : Value).ownBlock) v325 t324) ∧ Aside0 (Below w.heap.size w wc))
     case first =>
      have H := HC15.out
      clear HC15
      by_cases c16 : t321 > 16777216
      ·
       rw [if_pos c16] at H
       have c16b0 : decide (16777216 < t321) = true := decide_eq_true c16
       clear c16
       (first | rw [c16b0] | (simp only [i64_w, i32_w]; rw [c16b0]) | skip)
       have H' := Aside0.mk H
       clear H
       go_wp2
       go_meet
       case rel => exact ⟨_, (16777216), (by first | rfl | (simp; done) | (simp [*]; done)), H', ⟨by have := HJ5.out; first | omega | exact Nat.le_refl _⟩, ⟨by (with_reducible repeat (first | apply Kd.R_alloc | apply Kd.R_drewN | apply Kd.R_drew)); exact HO_3.out⟩, ⟨by (with_reducible repeat (first | apply Kd.R_alloc | apply Kd.R_drewN | apply Kd.R_drew)); exact HO_7.out⟩, ⟨by repeat (first | (with_reducible first | exact HB.out | apply below_alloc | apply pw_below_drewN | apply below_drew1) | exact HB.out)⟩⟩
      ·
       rw [if_neg c16] at H
       have c16b0 : decide (16777216 < t321) = false := decide_eq_false c16
       clear c16
       (first | rw [c16b0] | (simp only [i64_w, i32_w]; rw [c16b0]) | skip)
       have H' := Aside0.mk H
       clear H
       go_wp2
       go_meet
       case rel => exact ⟨_, (t321), (by first | rfl | (simp; done) | (simp [*]; done)), H', ⟨by have := HJ5.out; first | omega | exact Nat.le_refl _⟩, ⟨by (with_reducible repeat (first | apply Kd.R_alloc | apply Kd.R_drewN | apply Kd.R_drew)); exact HO_3.out⟩, ⟨by (with_reducible repeat (first | apply Kd.R_alloc | apply Kd.R_drewN | apply Kd.R_drew)); exact HO_7.out⟩, ⟨by repeat (first | (with_reducible first | exact HB.out | apply below_alloc | apply pw_below_drewN | apply below_drew1) | exact HB.out)⟩⟩
     case rest =>
      clear HC15
      try clear c1
      try clear c2
      try clear p2
      try clear c3
      try clear c5
      try clear c10
      try clear c10b0
      try clear c11
      try clear c11b0
      try clear c12
      try clear c12b0
      try clear c13
      try clear c16
      try clear c16b0
      try clear p2
      obtain ⟨kq, x6_14, rfl, HA, HJ14, HO_3, HO_7, HB⟩ := hcut
      cases kq with
      | zero => exact absurd HA.out (by simp [laws_FnPrefixed.j1])
      | succ kj14 =>
       have H := HA.out
       clear HA
       simp only [laws_FnPrefixed.j1] at H
       have HC17 := Aside0.mk H
       clear H
       go_upto_if 50 with (fail)
       go_cut [6] (fun v6 wc => ∃ (kq : Nat) (x6_16 : Int), v6 = .int .i64 x6_16 ∧ Aside0 (laws_FnPrefixed.j2 kq t318 t319 t320 x6_16 t324 = some r) ∧ Aside0 (kq ≤ kj14) ∧ Aside0 (Kd.R (Kd.int .u8) 5 wc w.heap.size (fun k_ => some k_ ≠ (v325 : Value).ownBlock) (.slice Ao8 t318.length co8) t318) ∧ Aside0 (Kd.R (Kd.int .u8) 5 wc w.heap.size (fun k_ => some k_ ≠ ((.slice Ao8 t318.length co8) : Value).ownBlock) v325 t324) ∧ Aside0 (Below w.heap.size w wc))
       case first =>
        have H := HC17.out
        clear HC17
        by_cases c18 : x6_14 < 0
        ·
         rw [if_pos c18] at H
         have c18b0 : decide (x6_14 < 0) = true := decide_eq_true c18
         clear c18
         (first | rw [c18b0] | (simp only [i64_w, i32_w]; rw [c18b0]) | skip)
         have H' := Aside0.mk H
         clear H
         go_wp2
         go_meet
         case rel => exact ⟨_, (0), (by first | rfl | (simp; done) | (simp [*]; done)), H', ⟨by have := HJ5.out; have := HJ14.out; first | omega | exact Nat.le_refl _⟩, ⟨by (with_reducible repeat (first | apply Kd.R_alloc | apply Kd.R_drewN | apply Kd.R_drew)); exact HO_3.out⟩, ⟨by (with_reducible repeat (first | apply Kd.R_alloc | apply Kd.R_drewN | apply Kd.R_drew)); exact HO_7.out⟩, ⟨by repeat (first | (with_reducible first | exact HB.out | apply below_alloc | apply pw_below_drewN | apply below_drew1) | exact HB.out)⟩⟩
        ·
         rw [if_neg c18] at H
         have c18b0 : decide (x6_14 < 0) = false := decide_eq_false c18
         clear c18
         (first | rw [c18b0] | (simp only [i64_w, i32_w]; rw [c18b0]) | skip)
         have H' := Aside0.mk H
         clear H
         go_wp2
         go_meet
         case rel => exact ⟨_, (x6_14), (by first | rfl | (simp; done) | (simp [*]; done)), H', ⟨by have := HJ5.out; have := HJ14.out; first | omega | exact Nat.le_refl _⟩, ⟨by (with_reducible repeat (first | apply Kd.R_alloc | apply Kd.R_drewN | apply Kd.R_drew)); exact HO_3.out⟩, ⟨by (with_reducible repeat (first | apply Kd.R_alloc | apply Kd.R_drewN | apply Kd.R_drew)); exact HO_7.out⟩, ⟨by repeat (first | (with_reducible first | exact HB.out | apply below_alloc | apply pw_below_drewN | apply below_drew1) | exact HB.out)⟩⟩
       case rest =>
        clear HC17
        try clear c1
        try clear c2
        try clear p2
        try clear c3
        try clear c5
        try clear c10
        try clear c10b0
        try clear c11
        try clear c11b0
        try clear c12
        try clear c12b0
        try clear c13
        try clear c16
        try clear c16b0
        try clear c17
        try clear c18
        try clear c18b0
        try clear p2
        obtain ⟨kq, x6_16, rfl, HA, HJ16, HO_3, HO_7, HB⟩ := hcut
        cases kq with
        | zero => exact absurd HA.out (by simp [laws_FnPrefixed.j2])
        | succ kj16 =>
         have H := HA.out
         clear HA
         simp only [laws_FnPrefixed.j2] at H
         replace H := Option.bind_eq_some_iff.mp H
         obtain ⟨⟨t327, t328, t329⟩, A190, H⟩ := H
         replace H : (if 0 ≤ (wrap64 ((t324.length : Int) - 1)) then (if (wrap64 ((t324.length : Int) - 1)) ≤ (t324.length : Int) then ((impl_GetPrefix.f kj16 (t324.take ((wrap64 ((t324.length : Int) - 1)) : Int).toNat) (t318.length : Int) t319).bind fun bt334 => (if t329 = true then (if t327 = x6_16 then (if t328 = (t324.length : Int) then (if bt334.2.2 = true then (some false) else (if 0 ≤ (t318.length : Int) then (if (t318.length : Int) < (t324.length : Int) then (if 0 ≤ (IntKind.u64.wrap (t319)) then (some ((shr .i64 (wrap64 (rd t324 (t318.length : Int))) (IntKind.u64.wrap (t319))) == (shr .i64 t320 (IntKind.u64.wrap (t319))))) else (none)) else (none)) else (none))) else (some false)) else (some false)) else (some false))) else (none)) else (none)) = some r := H
         have A19 := Aside0.mk A190
         clear A190
         obtain ⟨ji20, hji20⟩ : ∃ j_ : Int, (wrap64 ((t324.length : Int) - 1)) = j_ := ⟨_, rfl⟩
         replace H : (if 0 ≤ (ji20) then (if (ji20) ≤ (t324.length : Int) then ((impl_GetPrefix.f kj16 (t324.take ((ji20) : Int).toNat) (t318.length : Int) t319).bind fun bt334 => (if t329 = true then (if t327 = x6_16 then (if t328 = (t324.length : Int) then (if bt334.2.2 = true then (some false) else (if 0 ≤ (t318.length : Int) then (if (t318.length : Int) < (t324.length : Int) then (if 0 ≤ (IntKind.u64.wrap (t319)) then (some ((shr .i64 (wrap64 (rd t324 (t318.length : Int))) (IntKind.u64.wrap (t319))) == (shr .i64 t320 (IntKind.u64.wrap (t319))))) else (none)) else (none)) else (none))) else (some false)) else (some false)) else (some false))) else (none)) else (none)) = some r := by first | (rw [hji20] at H; exact H) | (simp only [hji20] at H ⊢; exact H)
         (try rw [hji20] at A19)
         have hji20w : (IntKind.i64.wrap ((t324.length : Int) - 1)) = ji20 := (i64_w _).trans hji20
         by_cases c21 : 0 ≤ (ji20)
         ·
          rw [if_pos c21] at H
          have c21b0 := eq_true c21
          have c21b1 : decide (0 ≤ (ji20)) = true := decide_eq_true c21
          clear c21
          by_cases c22 : (ji20) ≤ (t324.length : Int)
          ·
           rw [if_pos c22] at H
           have c22b0 := eq_true c22
           have c22b1 : decide ((ji20) ≤ (t324.length : Int)) = true := decide_eq_true c22
           clear c22
           obtain ⟨y330, hy330⟩ : ∃ y_ : List Int, y_ = (t324.take ((ji20) : Int).toNat) := ⟨_, rfl⟩
           replace H : ((impl_GetPrefix.f kj16 y330 (t318.length : Int) t319).bind fun bt334 => (if t329 = true then (if t327 = x6_16 then (if t328 = (t324.length : Int) then (if bt334.2.2 = true then (some false) else (if 0 ≤ (t318.length : Int) then (if (t318.length : Int) < (t324.length : Int) then (if 0 ≤ (IntKind.u64.wrap (t319)) then (some ((shr .i64 (wrap64 (rd t324 (t318.length : Int))) (IntKind.u64.wrap (t319))) == (shr .i64 t320 (IntKind.u64.wrap (t319))))) else (none)) else (none)) else (none))) else (some false)) else (some false)) else (some false))) = some r := by first | (rw [hy330]; with_reducible exact H) | (have H2_ := (Option.bind_some _ _).symm.trans H; rw [hy330]; with_reducible exact H2_) | (have H2_ := (Option.bind_some _ _).symm.trans H; with_reducible exact H2_) | with_reducible exact H | (rw [hy330]; exact H) | exact H
           have Ny330 := Aside0.mk hy330
           clear hy330
           replace H := Option.bind_eq_some_iff.mp H
           obtain ⟨⟨t334, t335, t336⟩, A230, H⟩ := H
           replace H : (if t329 = true then (if t327 = x6_16 then (if t328 = (t324.length : Int) then (if t336 = true then (some false) else (if 0 ≤ (t318.length : Int) then (if (t318.length : Int) < (t324.length : Int) then (if 0 ≤ (IntKind.u64.wrap (t319)) then (some ((shr .i64 (wrap64 (rd t324 (t318.length : Int))) (IntKind.u64.wrap (t319))) == (shr .i64 t320 (IntKind.u64.wrap (t319))))) else (none)) else (none)) else (none))) else (some false)) else (some false)) else (some false)) = some r := H
           have A23 := Aside0.mk A230
           clear A230
           by_cases c24 : t329 = true
           ·
            subst c24
            have H1 : (if t327 = x6_16 then (if t328 = (t324.length : Int) then (if t336 = true then (some false) else (if 0 ≤ (t318.length : Int) then (if (t318.length : Int) < (t324.length : Int) then (if 0 ≤ (IntKind.u64.wrap (t319)) then (some ((shr .i64 (wrap64 (rd t324 (t318.length : Int))) (IntKind.u64.wrap (t319))) == (shr .i64 t320 (IntKind.u64.wrap (t319))))) else (none)) else (none)) else (none))) else (some false)) else (some false)) = some r := by rw [if_pos rfl] at H; exact H
            clear H
            have H := H1
            clear H1
            by_cases c25 : t327 = x6_16
            ·
             rw [if_pos c25] at H
             have c25b0 : (t327 == x6_16) = true := beq_iff_eq.mpr c25
             have c25b1 : (t327 != x6_16) = false := bne_eq_false_iff_eq.mpr c25
             clear c25
             by_cases c26 : t328 = (t324.length : Int)
             ·
              rw [if_pos c26] at H
              have c26b0 : (t328 == (t324.length : Int)) = true := beq_iff_eq.mpr c26
              have c26b1 : (t328 != (t324.length : Int)) = false := bne_eq_false_iff_eq.mpr c26
              clear c26
              by_cases c27 : t336 = true
              ·
               subst c27
               have H1 : (some false) = some r := by rw [if_pos rfl] at H; exact H
               clear H
               have H := H1
               clear H1
               obtain rfl := Option.some.inj H
               obtain ⟨Ao28, co28, eo28⟩ := Kd.R_slice HO_7.out
               subst eo28
               go_wp2_with (first | ((with_reducible refine gate_callee (f := 28) rfl ?_); refine goesL_ (some 56) rfl rfl Try.func28 (by kernel_rfl) rfl #[.slice Ao28 t324.length co28, .int .i64 (t318.length : Int), .int .i64 t319] rfl (by (try simp only [List.map_toArray, List.map_cons, List.map_nil]); first | done | rfl | (simp only [List.length_drop, List.length_take]; rfl)) ?_; (with_reducible refine (impl_GetPrefix.calls kj16 _ _ t324 (t318.length : Int) t319 t327 t328 true _ ?side1 ?side2 A19.out).mono ?_); (case side1 => repeat (first | exact (Kd.R_reads' HO_7.out).2.2 | (with_reducible refine Kd.C_alloc ?_ _) | (with_reducible refine Kd.C_drewN ?_ _) | (with_reducible refine Kd.C_drew ?_))); (case side2 => exact (Kd.R_reads' HO_7.out).2.1); rintro e w' ⟨rfl, ⟨nd, rfl⟩⟩; refine ⟨_, rfl, ?_⟩; have q29 : ((ji20) : Int) ≤ ((t324.length : Int) : Int) := of_decide_eq_true (by first | (with_reducible assumption) | assumption); obtain ⟨i029, hi029, _, hsz29, _⟩ := info_parts info5; have hroom29 : t324.length ≤ co28 := (Kd.R_reads' HO_7.out).2.1; have hC29 : Kd.C (Kd.int .u8) _ Ao28 t324.length t324 := (Kd.R_reads' HO_7.out).2.2; have hcut29 := cut_to (P := Try.prog) 22 5 .i64 Try.underlying22 hi029 Ao28 t324.length co28 (ji20) (of_decide_eq_true (by first | (with_reducible assumption) | assumption)) q29 hroom29; have hr29 := Kd.C_take (m := ((ji20) : Int).toNat) hC29 (by omega); have hy29 : y330.length = ((ji20) : Int).toNat := (by rw [Ny330.out, List.length_take]; omega); rw [← Ny330.out] at hr29; rw [← hy29] at hcut29; have HR333 := Aside0.mk hr29; have HC333 := Aside0.mk (show y330.length ≤ co28 from by omega); clear hr29 hC29 hroom29 hi029 hsz29; have KY29 := Aside0.mk hy29; clear hy29; have KL29 := Aside0.mk (show ((ji20) : Int).toNat ≤ t324.length from by omega); replace q29 := eq_true q29) | ((with_reducible refine gate_callee (f := 28) rfl ?_); refine goesL_ (some 69) rfl rfl Try.func28 (by kernel_rfl) rfl #[.slice Ao28 y330.length co28, .int .i64 (t318.length : Int), .int .i64 t319] rfl (by (try simp only [List.map_toArray, List.map_cons, List.map_nil]); first | done | rfl | (simp only [List.length_drop, List.length_take]; rfl)) ?_; (with_reducible refine (impl_GetPrefix.calls kj16 _ _ y330 (t318.length : Int) t319 t334 t335 true _ ?side1 ?side2 A23.out).mono ?_); (case side1 => repeat (first | exact (by repeat (first | (with_reducible exact HR333.out) | (with_reducible refine Kd.C_alloc ?_ _) | (with_reducible refine Kd.C_drewN ?_ _) | (with_reducible refine Kd.C_drew ?_) | exact HR333.out)) | (with_reducible refine Kd.C_alloc ?_ _) | (with_reducible refine Kd.C_drewN ?_ _) | (with_reducible refine Kd.C_drew ?_))); (case side2 => exact HC333.out); rintro e w' ⟨rfl, ⟨nd, rfl⟩⟩; refine ⟨_, rfl, ?_⟩))
               go_ret
               exact ⟨by first | rfl | (simp [errW_none, errW_some] <;> rfl) | (simp only [← hji20]; first | rfl | (simp [errW_none, errW_some] <;> rfl)) | (simp [*, errW_none, errW_some] <;> rfl), by repeat (first | (with_reducible first | exact HB.out | apply below_alloc | apply pw_below_drewN | apply below_drew1) | exact HB.out)⟩
              ·
               replace c27 := Bool.eq_false_iff.mpr c27
               subst c27
               have H1 : (if 0 ≤ (t318.length : Int) then (if (t318.length : Int) < (t324.length : Int) then (if 0 ≤ (IntKind.u64.wrap (t319)) then (some ((shr .i64 (wrap64 (rd t324 (t318.length : Int))) (IntKind.u64.wrap (t319))) == (shr .i64 t320 (IntKind.u64.wrap (t319))))) else (none)) else (none)) else (none)) = some r := by rw [if_neg (show ¬ (false = true) by decide)] at H; exact H
               clear H
               have H := H1
               clear H1
               by_cases c30 : 0 ≤ (t318.length : Int)
               ·
                rw [if_pos c30] at H
                have c30b0 : decide (0 ≤ (t318.length : Int)) = true := decide_eq_true c30
                have c30b1 : decide (0 ≤ t318.length) = true := decide_eq_true (by omega)
                clear c30
                by_cases c31 : (t318.length : Int) < (t324.length : Int)
                ·
                 rw [if_pos c31] at H
                 have c31b0 : decide ((t318.length : Int) < (t324.length : Int)) = true := decide_eq_true c31
                 have c31b1 : decide (t318.length < t324.length) = true := decide_eq_true (Int.ofNat_lt.mp c31)
                 clear c31
                 obtain ⟨ji32, hji32⟩ : ∃ j_ : Int, (IntKind.u64.wrap (t319)) = j_ := ⟨_, rfl⟩
                 replace H : (if 0 ≤ (ji32) then (some ((shr .i64 (wrap64 (rd t324 (t318.length : Int))) (ji32)) == (shr .i64 t320 (ji32)))) else (none)) = some r := by first | (rw [hji32] at H; exact H) | (simp only [hji32] at H ⊢; exact H)
                 (try rw [hji32] at A19)
                 (try rw [hji32] at A23)
                 by_cases c33 : 0 ≤ (ji32)
                 ·
                  rw [if_pos c33] at H
                  have c33b0 := eq_true c33
                  have c33b1 : decide (0 ≤ (ji32)) = true := decide_eq_true c33
                  clear c33
                  obtain ⟨ji34, hji34⟩ : ∃ j_ : Int, (shr .i64 (wrap64 (rd t324 (t318.length : Int))) (ji32)) = j_ := ⟨_, rfl⟩
                  replace H : (some ((ji34) == (shr .i64 t320 (ji32)))) = some r := by first | (rw [hji34] at H; exact H) | (simp only [hji34] at H ⊢; exact H)
                  (try rw [hji34] at A19)
                  (try rw [hji34] at A23)
                  have hji34_ : ((wrap64 (rd t324 (t318.length : Int))) / 2 ^ min (ji32).toNat 64) = ji34 := hji34
                  have hji34z : (ji32) ≤ 64 → ((wrap64 (rd t324 (t318.length : Int))) / 2 ^ (ji32).toNat) = ji34 := shr_small hji34
                  have c35b0 := eq_true (of_decide_eq_true (by first | (with_reducible assumption) | assumption) : 0 ≤ (ji32))
                  obtain ⟨ji36, hji36⟩ : ∃ j_ : Int, (shr .i64 t320 (ji32)) = j_ := ⟨_, rfl⟩
                  replace H : (some ((ji34) == (ji36))) = some r := by first | (rw [hji36] at H; exact H) | (simp only [hji36] at H ⊢; exact H)
                  (try rw [hji36] at A19)
                  (try rw [hji36] at A23)
                  have hji36_ : (t320 / 2 ^ min (ji32).toNat 64) = ji36 := hji36
                  have hji36z : (ji32) ≤ 64 → (t320 / 2 ^ (ji32).toNat) = ji36 := shr_small hji36
                  obtain rfl := Option.some.inj H
                  obtain ⟨Ao37, co37, eo37⟩ := Kd.R_slice HO_7.out
                  subst eo37
                  go_wp2_with (first | ((with_reducible refine gate_callee (f := 28) rfl ?_); refine goesL_ (some 56) rfl rfl Try.func28 (by kernel_rfl) rfl #[.slice Ao37 t324.length co37, .int .i64 (t318.length : Int), .int .i64 t319] rfl (by (try simp only [List.map_toArray, List.map_cons, List.map_nil]); first | done | rfl | (simp only [List.length_drop, List.length_take]; rfl)) ?_; (with_reducible refine (impl_GetPrefix.calls kj16 _ _ t324 (t318.length : Int) t319 t327 t328 true _ ?side1 ?side2 A19.out).mono ?_); (case side1 => repeat (first | exact (Kd.R_reads' HO_7.out).2.2 | (with_reducible refine Kd.C_alloc ?_ _) | (with_reducible refine Kd.C_drewN ?_ _) | (with_reducible refine Kd.C_drew ?_))); (case side2 => exact (Kd.R_reads' HO_7.out).2.1); rintro e w' ⟨rfl, ⟨nd, rfl⟩⟩; refine ⟨_, rfl, ?_⟩; have q38 : ((ji20) : Int) ≤ ((t324.length : Int) : Int) := of_decide_eq_true (by first | (with_reducible assumption) | assumption); obtain ⟨i038, hi038, _, hsz38, _⟩ := info_parts info5; have hroom38 : t324.length ≤ co37 := (Kd.R_reads' HO_7.out).2.1; have hC38 : Kd.C (Kd.int .u8) _ Ao37 t324.length t324 := (Kd.R_reads' HO_7.out).2.2; have hcut38 := cut_to (P := Try.prog) 22 5 .i64 Try.underlying22 hi038 Ao37 t324.length co37 (ji20) (of_decide_eq_true (by first | (with_reducible assumption) | assumption)) q38 hroom38; have hr38 := Kd.C_take (m := ((ji20) : Int).toNat) hC38 (by omega); have hy38 : y330.length = ((ji20) : Int).toNat := (by rw [Ny330.out, List.length_take]; omega); rw [← Ny330.out] at hr38; rw [← hy38] at hcut38; have HR333 := Aside0.mk hr38; have HC333 := Aside0.mk (show y330.length ≤ co37 from by omega); clear hr38 hC38 hroom38 hi038 hsz38; have KY38 := Aside0.mk hy38; clear hy38; have KL38 := Aside0.mk (show ((ji20) : Int).toNat ≤ t324.length from by omega); replace q38 := eq_true q38) | ((with_reducible refine gate_callee (f := 28) rfl ?_); refine goesL_ (some 69) rfl rfl Try.func28 (by kernel_rfl) rfl #[.slice Ao37 y330.length co37, .int .i64 (t318.length : Int), .int .i64 t319] rfl (by (try simp only [List.map_toArray, List.map_cons, List.map_nil]); first | done | rfl | (simp only [List.length_drop, List.length_take]; rfl)) ?_; (with_reducible refine (impl_GetPrefix.calls kj16 _ _ y330 (t318.length : Int) t319 t334 t335 false _ ?side1 ?side2 A23.out).mono ?_); (case side1 => repeat (first | exact (by repeat (first | (with_reducible exact HR333.out) | (with_reducible refine Kd.C_alloc ?_ _) | (with_reducible refine Kd.C_drewN ?_ _) | (with_reducible refine Kd.C_drew ?_) | exact HR333.out)) | (with_reducible refine Kd.C_alloc ?_ _) | (with_reducible refine Kd.C_drewN ?_ _) | (with_reducible refine Kd.C_drew ?_))); (case side2 => exact HC333.out); rintro e w' ⟨rfl, ⟨nd, rfl⟩⟩; refine ⟨_, rfl, ?_⟩; have p337 : 0 ≤ ((t318.length : Int) : Int) := of_decide_eq_true (by first | (with_reducible assumption) | assumption); have q337 : (t318.length : Int) < (t324.length : Int) := of_decide_eq_true (by first | (with_reducible assumption) | assumption); obtain ⟨ad337, e337, hx337_0⟩ := Kd.at_int (Kd.R_reads' HO_7.out).2.2 (t318.length : Int) p337 q337; cases e337; (try simp only [Go.IntWalk.toNatUp] at hx337_0); replace p337 := eq_true p337; replace q337 := eq_true q337))
                  go_ret
                  exact ⟨by first | rfl | (simp [errW_none, errW_some] <;> rfl) | (simp only [← hji20, ← hji32, ← hji34, ← hji36]; first | rfl | (simp [errW_none, errW_some] <;> rfl)) | (simp [*, errW_none, errW_some] <;> rfl), by repeat (first | (with_reducible first | exact HB.out | apply below_alloc | apply pw_below_drewN | apply below_drew1) | exact HB.out)⟩
                 ·
                  rw [if_neg c33] at H
                  exact absurd H (by simp)
                ·
                 rw [if_neg c31] at H
                 exact absurd H (by simp)
               ·
                rw [if_neg c30] at H
                exact absurd H (by simp)
             ·
              rw [if_neg c26] at H
              have c26b0 : (t328 == (t324.length : Int)) = false := beq_eq_false_iff_ne.mpr c26
              have c26b1 : (t328 != (t324.length : Int)) = true := bne_iff_ne.mpr c26
              obtain rfl := Option.some.inj H
              obtain ⟨Ao39, co39, eo39⟩ := Kd.R_slice HO_7.out
              subst eo39
              go_wp2_with (first | ((with_reducible refine gate_callee (f := 28) rfl ?_); refine goesL_ (some 56) rfl rfl Try.func28 (by kernel_rfl) rfl #[.slice Ao39 t324.length co39, .int .i64 (t318.length : Int), .int .i64 t319] rfl (by (try simp only [List.map_toArray, List.map_cons, List.map_nil]); first | done | rfl | (simp only [List.length_drop, List.length_take]; rfl)) ?_; (with_reducible refine (impl_GetPrefix.calls kj16 _ _ t324 (t318.length : Int) t319 t327 t328 true _ ?side1 ?side2 A19.out).mono ?_); (case side1 => repeat (first | exact (Kd.R_reads' HO_7.out).2.2 | (with_reducible refine Kd.C_alloc ?_ _) | (with_reducible refine Kd.C_drewN ?_ _) | (with_reducible refine Kd.C_drew ?_))); (case side2 => exact (Kd.R_reads' HO_7.out).2.1); rintro e w' ⟨rfl, ⟨nd, rfl⟩⟩; refine ⟨_, rfl, ?_⟩; have q40 : ((ji20) : Int) ≤ ((t324.length : Int) : Int) := of_decide_eq_true (by first | (with_reducible assumption) | assumption); obtain ⟨i040, hi040, _, hsz40, _⟩ := info_parts info5; have hroom40 : t324.length ≤ co39 := (Kd.R_reads' HO_7.out).2.1; have hC40 : Kd.C (Kd.int .u8) _ Ao39 t324.length t324 := (Kd.R_reads' HO_7.out).2.2; have hcut40 := cut_to (P := Try.prog) 22 5 .i64 Try.underlying22 hi040 Ao39 t324.length co39 (ji20) (of_decide_eq_true (by first | (with_reducible assumption) | assumption)) q40 hroom40; have hr40 := Kd.C_take (m := ((ji20) : Int).toNat) hC40 (by omega); have hy40 : y330.length = ((ji20) : Int).toNat := (by rw [Ny330.out, List.length_take]; omega); rw [← Ny330.out] at hr40; rw [← hy40] at hcut40; have HR333 := Aside0.mk hr40; have HC333 := Aside0.mk (show y330.length ≤ co39 from by omega); clear hr40 hC40 hroom40 hi040 hsz40; have KY40 := Aside0.mk hy40; clear hy40; have KL40 := Aside0.mk (show ((ji20) : Int).toNat ≤ t324.length from by omega); replace q40 := eq_true q40) | ((with_reducible refine gate_callee (f := 28) rfl ?_); refine goesL_ (some 69) rfl rfl Try.func28 (by kernel_rfl) rfl #[.slice Ao39 y330.length co39, .int .i64 (t318.length : Int), .int .i64 t319] rfl (by (try simp only [List.map_toArray, List.map_cons, List.map_nil]); first | done | rfl | (simp only [List.length_drop, List.length_take]; rfl)) ?_; (with_reducible refine (impl_GetPrefix.calls kj16 _ _ y330 (t318.length : Int) t319 t334 t335 t336 _ ?side1 ?side2 A23.out).mono ?_); (case side1 => repeat (first | exact (by repeat (first | (with_reducible exact HR333.out) | (with_reducible refine Kd.C_alloc ?_ _) | (with_reducible refine Kd.C_drewN ?_ _) | (with_reducible refine Kd.C_drew ?_) | exact HR333.out)) | (with_reducible refine Kd.C_alloc ?_ _) | (with_reducible refine Kd.C_drewN ?_ _) | (with_reducible refine Kd.C_drew ?_))); (case side2 => exact HC333.out); rintro e w' ⟨rfl, ⟨nd, rfl⟩⟩; refine ⟨_, rfl, ?_⟩))
              go_ret
              exact ⟨by first | rfl | (simp [errW_none, errW_some] <;> rfl) | (simp only [← hji20]; first | rfl | (simp [errW_none, errW_some] <;> rfl)) | (simp [*, errW_none, errW_some] <;> rfl), by repeat (first | (with_reducible first | exact HB.out | apply below_alloc | apply pw_below_drewN | apply below_drew1) | exact HB.out)⟩
            ·
             rw [if_neg c25] at H
             have c25b0 : (t327 == x6_16) = false := beq_eq_false_iff_ne.mpr c25
             have c25b1 : (t327 != x6_16) = true := bne_iff_ne.mpr c25
             obtain rfl := Option.some.inj H
             obtain ⟨Ao41, co41, eo41⟩ := Kd.R_slice HO_7.out
             subst eo41
             go_wp2_with (first | ((with_reducible refine gate_callee (f := 28) rfl ?_); refine goesL_ (some 56) rfl rfl Try.func28 (by kernel_rfl) rfl #[.slice Ao41 t324.length co41, .int .i64 (t318.length : Int), .int .i64 t319] rfl (by (try simp only [List.map_toArray, List.map_cons, List.map_nil]); first | done | rfl | (simp only [List.length_drop, List.length_take]; rfl)) ?_; (with_reducible refine (impl_GetPrefix.calls kj16 _ _ t324 (t318.length : Int) t319 t327 t328 true _ ?side1 ?side2 A19.out).mono ?_); (case side1 => repeat (first | exact (Kd.R_reads' HO_7.out).2.2 | (with_reducible refine Kd.C_alloc ?_ _) | (with_reducible refine Kd.C_drewN ?_ _) | (with_reducible refine Kd.C_drew ?_))); (case side2 => exact (Kd.R_reads' HO_7.out).2.1); rintro e w' ⟨rfl, ⟨nd, rfl⟩⟩; refine ⟨_, rfl, ?_⟩; have q42 : ((ji20) : Int) ≤ ((t324.length : Int) : Int) := of_decide_eq_true (by first | (with_reducible assumption) | assumption); obtain ⟨i042, hi042, _, hsz42, _⟩ := info_parts info5; have hroom42 : t324.length ≤ co41 := (Kd.R_reads' HO_7.out).2.1; have hC42 : Kd.C (Kd.int .u8) _ Ao41 t324.length t324 := (Kd.R_reads' HO_7.out).2.2; have hcut42 := cut_to (P := Try.prog) 22 5 .i64 Try.underlying22 hi042 Ao41 t324.length co41 (ji20) (of_decide_eq_true (by first | (with_reducible assumption) | assumption)) q42 hroom42; have hr42 := Kd.C_take (m := ((ji20) : Int).toNat) hC42 (by omega); have hy42 : y330.length = ((ji20) : Int).toNat := (by rw [Ny330.out, List.length_take]; omega); rw [← Ny330.out] at hr42; rw [← hy42] at hcut42; have HR333 := Aside0.mk hr42; have HC333 := Aside0.mk (show y330.length ≤ co41 from by omega); clear hr42 hC42 hroom42 hi042 hsz42; have KY42 := Aside0.mk hy42; clear hy42; have KL42 := Aside0.mk (show ((ji20) : Int).toNat ≤ t324.length from by omega); replace q42 := eq_true q42) | ((with_reducible refine gate_callee (f := 28) rfl ?_); refine goesL_ (some 69) rfl rfl Try.func28 (by kernel_rfl) rfl #[.slice Ao41 y330.length co41, .int .i64 (t318.length : Int), .int .i64 t319] rfl (by (try simp only [List.map_toArray, List.map_cons, List.map_nil]); first | done | rfl | (simp only [List.length_drop, List.length_take]; rfl)) ?_; (with_reducible refine (impl_GetPrefix.calls kj16 _ _ y330 (t318.length : Int) t319 t334 t335 t336 _ ?side1 ?side2 A23.out).mono ?_); (case side1 => repeat (first | exact (by repeat (first | (with_reducible exact HR333.out) | (with_reducible refine Kd.C_alloc ?_ _) | (with_reducible refine Kd.C_drewN ?_ _) | (with_reducible refine Kd.C_drew ?_) | exact HR333.out)) | (with_reducible refine Kd.C_alloc ?_ _) | (with_reducible refine Kd.C_drewN ?_ _) | (with_reducible refine Kd.C_drew ?_))); (case side2 => exact HC333.out); rintro e w' ⟨rfl, ⟨nd, rfl⟩⟩; refine ⟨_, rfl, ?_⟩))
             go_ret
             exact ⟨by first | rfl | (simp [errW_none, errW_some] <;> rfl) | (simp only [← hji20]; first | rfl | (simp [errW_none, errW_some] <;> rfl)) | (simp [*, errW_none, errW_some] <;> rfl), by repeat (first | (with_reducible first | exact HB.out | apply below_alloc | apply pw_below_drewN | apply below_drew1) | exact HB.out)⟩
           ·
            replace c24 := Bool.eq_false_iff.mpr c24
            subst c24
            have H1 : (some false) = some r := by rw [if_neg (show ¬ (false = true) by decide)] at H; exact H
            clear H
            have H := H1
            clear H1
            obtain rfl := Option.some.inj H
            obtain ⟨Ao43, co43, eo43⟩ := Kd.R_slice HO_7.out
            subst eo43
            go_wp2_with (first | ((with_reducible refine gate_callee (f := 28) rfl ?_); refine goesL_ (some 56) rfl rfl Try.func28 (by kernel_rfl) rfl #[.slice Ao43 t324.length co43, .int .i64 (t318.length : Int), .int .i64 t319] rfl (by (try simp only [List.map_toArray, List.map_cons, List.map_nil]); first | done | rfl | (simp only [List.length_drop, List.length_take]; rfl)) ?_; (with_reducible refine (impl_GetPrefix.calls kj16 _ _ t324 (t318.length : Int) t319 t327 t328 false _ ?side1 ?side2 A19.out).mono ?_); (case side1 => repeat (first | exact (Kd.R_reads' HO_7.out).2.2 | (with_reducible refine Kd.C_alloc ?_ _) | (with_reducible refine Kd.C_drewN ?_ _) | (with_reducible refine Kd.C_drew ?_))); (case side2 => exact (Kd.R_reads' HO_7.out).2.1); rintro e w' ⟨rfl, ⟨nd, rfl⟩⟩; refine ⟨_, rfl, ?_⟩; have q44 : ((ji20) : Int) ≤ ((t324.length : Int) : Int) := of_decide_eq_true (by first | (with_reducible assumption) | assumption); obtain ⟨i044, hi044, _, hsz44, _⟩ := info_parts info5; have hroom44 : t324.length ≤ co43 := (Kd.R_reads' HO_7.out).2.1; have hC44 : Kd.C (Kd.int .u8) _ Ao43 t324.length t324 := (Kd.R_reads' HO_7.out).2.2; have hcut44 := cut_to (P := Try.prog) 22 5 .i64 Try.underlying22 hi044 Ao43 t324.length co43 (ji20) (of_decide_eq_true (by first | (with_reducible assumption) | assumption)) q44 hroom44; have hr44 := Kd.C_take (m := ((ji20) : Int).toNat) hC44 (by omega); have hy44 : y330.length = ((ji20) : Int).toNat := (by rw [Ny330.out, List.length_take]; omega); rw [← Ny330.out] at hr44; rw [← hy44] at hcut44; have HR333 := Aside0.mk hr44; have HC333 := Aside0.mk (show y330.length ≤ co43 from by omega); clear hr44 hC44 hroom44 hi044 hsz44; have KY44 := Aside0.mk hy44; clear hy44; have KL44 := Aside0.mk (show ((ji20) : Int).toNat ≤ t324.length from by omega); replace q44 := eq_true q44) | ((with_reducible refine gate_callee (f := 28) rfl ?_); refine goesL_ (some 69) rfl rfl Try.func28 (by kernel_rfl) rfl #[.slice Ao43 y330.length co43, .int .i64 (t318.length : Int), .int .i64 t319] rfl (by (try simp only [List.map_toArray, List.map_cons, List.map_nil]); first | done | rfl | (simp only [List.length_drop, List.length_take]; rfl)) ?_; (with_reducible refine (impl_GetPrefix.calls kj16 _ _ y330 (t318.length : Int) t319 t334 t335 t336 _ ?side1 ?side2 A23.out).mono ?_); (case side1 => repeat (first | exact (by repeat (first | (with_reducible exact HR333.out) | (with_reducible refine Kd.C_alloc ?_ _) | (with_reducible refine Kd.C_drewN ?_ _) | (with_reducible refine Kd.C_drew ?_) | exact HR333.out)) | (with_reducible refine Kd.C_alloc ?_ _) | (with_reducible refine Kd.C_drewN ?_ _) | (with_reducible refine Kd.C_drew ?_))); (case side2 => exact HC333.out); rintro e w' ⟨rfl, ⟨nd, rfl⟩⟩; refine ⟨_, rfl, ?_⟩))
            go_ret
            exact ⟨by first | rfl | (simp [errW_none, errW_some] <;> rfl) | (simp only [← hji20]; first | rfl | (simp [errW_none, errW_some] <;> rfl)) | (simp [*, errW_none, errW_some] <;> rfl), by repeat (first | (with_reducible first | exact HB.out | apply below_alloc | apply pw_below_drewN | apply below_drew1) | exact HB.out)⟩
          ·
           rw [if_neg c22] at H
           exact absurd H (by simp)
         ·
          rw [if_neg c21] at H
          exact absurd H (by simp)

/-- THE ONE PURE STATEMENT of laws_FnPrefixed: yours. -/
def laws_FnPrefixed.Pure : Prop := ∀ (l0 : List Int), l0.length ≤ maxLen → l0.length * 1 ≤ 140737488351232 → (∀ x ∈ l0, (Lit.int .u8 x).wf = true) → ∃ k, laws_FnPrefixed.f k l0 = some true
theorem laws_FnPrefixed.walk (P : laws_FnPrefixed.Pure) (a0 : Option Addr) (len0 cap0 : Nat) (z0 : List Int) (w : World) (w0 : (a0 = none ∧ len0 = 0 ∧ cap0 = 0 ∧ z0 = []) ∨ ∃ x, a0 = some x ∧ len0 ≤ cap0 ∧ cap0 ≤ maxLen ∧ z0.length = cap0 ∧ (∀ i, i < z0.length → w.cell? (x.add i) = some (.int .u8 (z0.getD i 0))) ∧ ∀ n ∈ z0, (Lit.int .u8 n).wf = true) (y0 : len0 * 1 ≤ 140737488351232) :
  Calls Try.prog 5 #[.slice a0 len0 cap0] w fun e w' => e = .returned (.bool true) ∧ Below w.heap.size w w' := by
 obtain ⟨l0, rfl, hr0, hm0, hw0, hc0⟩ := ReadsInt.ofRowC w0
 obtain ⟨k, h⟩ := P l0 hm0 y0 hw0
 refine (laws_FnPrefixed.calls k _ _ l0 true w (Kd.C_of_reads (d := (0 : Int)) (h1 := fun _ => rfl) hr0) hc0 h).mono ?_
 rintro e w' ⟨rfl, hd⟩
 exact ⟨rfl, hd⟩

end Go.Proofs.Ytkhcnmjgojkkoaa.A
