/- Written by a program of this session, out of the translation: functions as plain Lean functions, and that the machine's calls answer as they do. Condition: none beyond each theorem's own. -/
import Derived.Test.YthflimnpiglgbaaDoorAx0
import Derived.Test.YthflimnpiglgbaaDoorAx1
namespace Go.Proofs.YthflimnpiglgbaaDoor.A
open Go.RowKit Go.Proofs.YthflimnpiglgbaaDoorW.PrintWords Go.Proofs.YthflimnpiglgbaaDoorW.PrintLast Go.Proofs.YthflimnpiglgbaaDoorW.PrintMore
attribute [local go_sem] max2_int min2_int max_two min_two max_three min_three max_four min_four   -- for this text's walks alone
set_option linter.unusedVariables false
set_option linter.unusedSimpArgs false

/-! ### impl_GetPrefix: function 55 -/
mutual
def impl_GetPrefix.j0 : Nat → List Int → Int → Int → Bool → Option (Int × Int × Bool)
 | 0, _, _, _, _ => none
 | k + 1, x0, x1, x2, x23 => if x23 = true then (some (0, 0, false)) else (if 0 ≤ (IntKind.u64.wrap (x2)) then (if 0 ≤ x1 then (if x1 < (x0.length : Int) then (if (Go.bits .and .i64 (wrap64 (rd x0 x1)) (wrap64 ((shl .i64 1 (IntKind.u64.wrap (x2))) - 1))) < (wrap64 ((shl .i64 1 (IntKind.u64.wrap (x2))) - 1)) then (some (Go.bits .and .i64 (wrap64 (rd x0 x1)) (wrap64 ((shl .i64 1 (IntKind.u64.wrap (x2))) - 1)), wrap64 (x1 + 1), true)) else (impl_GetPrefix.l0 k x0 (wrap64 (x1 + 1)) (Go.bits .and .i64 (wrap64 (rd x0 x1)) (wrap64 ((shl .i64 1 (IntKind.u64.wrap (x2))) - 1))) 0)) else (none)) else (none)) else (none))
def impl_GetPrefix.l0 : Nat → List Int → Int → Int → Int → Option (Int × Int × Bool)
 | 0, _, _, _, _ => none
 | k + 1, x0, x1, x10, x11 => if x11 < 4 then (impl_GetPrefix.j2 k x0 x1 x10 x11 (decide (x1 < (x0.length : Int)))) else (impl_GetPrefix.j2 k x0 x1 x10 x11 false)
def impl_GetPrefix.j2 : Nat → List Int → Int → Int → Int → Bool → Option (Int × Int × Bool)
 | 0, _, _, _, _, _ => none
 | k + 1, x0, x1, x10, x11, x49 => if x49 = true then (if 0 ≤ x1 then (if x1 < (x0.length : Int) then (if 0 ≤ (IntKind.u64.wrap (wrap64 (7 * x11))) then (if (wrap64 (rd x0 x1)) < 128 then (if (wrap64 (x10 + (shl .i64 (Go.bits .and .i64 (wrap64 (rd x0 x1)) 127) (IntKind.u64.wrap (wrap64 (7 * x11)))))) > 16777216 then (some (0, 0, false)) else (some (wrap64 (x10 + (shl .i64 (Go.bits .and .i64 (wrap64 (rd x0 x1)) 127) (IntKind.u64.wrap (wrap64 (7 * x11))))), wrap64 (x1 + 1), true))) else (impl_GetPrefix.l0 k x0 (wrap64 (x1 + 1)) (wrap64 (x10 + (shl .i64 (Go.bits .and .i64 (wrap64 (rd x0 x1)) 127) (IntKind.u64.wrap (wrap64 (7 * x11)))))) (wrap64 (x11 + 1)))) else (none)) else (none)) else (none)) else (some (0, 0, false))
end
def impl_GetPrefix.f (k : Nat) (l0 : List Int) (a1 : Int) (a2 : Int) : Option (Int × Int × Bool) := (impl_inRange.f a2 1 8).bind fun t426 => (if t426 = true then ((impl_inRange.f a1 0 (wrap64 ((l0.length : Int) - 1))).bind fun t427 => (impl_GetPrefix.j0 k l0 a1 a2 (!t427))) else (impl_GetPrefix.j0 k l0 a1 a2 true))
theorem impl_GetPrefix.mono_l : ∀ k, (∀ y0 y1 y2 y3, LeO (impl_GetPrefix.j0 k y0 y1 y2 y3) (impl_GetPrefix.j0 (k + 1) y0 y1 y2 y3)) ∧ (∀ y0 y1 y2 y3, LeO (impl_GetPrefix.l0 k y0 y1 y2 y3) (impl_GetPrefix.l0 (k + 1) y0 y1 y2 y3)) ∧ (∀ y0 y1 y2 y3 y4, LeO (impl_GetPrefix.j2 k y0 y1 y2 y3 y4) (impl_GetPrefix.j2 (k + 1) y0 y1 y2 y3 y4))
 | 0 => ⟨fun _ _ _ _ r h => by simp [impl_GetPrefix.j0] at h, fun _ _ _ _ r h => by simp [impl_GetPrefix.l0] at h, fun _ _ _ _ _ r h => by simp [impl_GetPrefix.j2] at h⟩
 | k + 1 => by
  obtain ⟨ih0, ih1, ih2⟩ := impl_GetPrefix.mono_l k
  refine ⟨?_, ?_, ?_⟩
  ·
   intro y0 y1 y2 y3
   unfold impl_GetPrefix.j0
   repeat' first
   | (with_reducible exact ih0 _ _ _ _)
   | (with_reducible exact ih1 _ _ _ _)
   | (with_reducible exact ih2 _ _ _ _ _)
   | (with_reducible exact LeO.refl _)
   | (with_reducible exact LeO.none _)
   | (with_reducible refine LeO.ite ?_ ?_)
   | (with_reducible refine LeO.bind ?_ (fun _ => ?_))
   | exact ih0 _ _ _ _
   | exact ih1 _ _ _ _
   | exact ih2 _ _ _ _ _
   | exact LeO.none _
   | refine LeO.ite ?_ ?_
   | refine LeO.bind ?_ (fun _ => ?_)
  ·
   intro y0 y1 y2 y3
   unfold impl_GetPrefix.l0
   repeat' first
   | (with_reducible exact ih0 _ _ _ _)
   | (with_reducible exact ih1 _ _ _ _)
   | (with_reducible exact ih2 _ _ _ _ _)
   | (with_reducible exact LeO.refl _)
   | (with_reducible exact LeO.none _)
   | (with_reducible refine LeO.ite ?_ ?_)
   | (with_reducible refine LeO.bind ?_ (fun _ => ?_))
   | exact ih0 _ _ _ _
   | exact ih1 _ _ _ _
   | exact ih2 _ _ _ _ _
   | exact LeO.none _
   | refine LeO.ite ?_ ?_
   | refine LeO.bind ?_ (fun _ => ?_)
  ·
   intro y0 y1 y2 y3 y4
   unfold impl_GetPrefix.j2
   repeat' first
   | (with_reducible exact ih0 _ _ _ _)
   | (with_reducible exact ih1 _ _ _ _)
   | (with_reducible exact ih2 _ _ _ _ _)
   | (with_reducible exact LeO.refl _)
   | (with_reducible exact LeO.none _)
   | (with_reducible refine LeO.ite ?_ ?_)
   | (with_reducible refine LeO.bind ?_ (fun _ => ?_))
   | exact ih0 _ _ _ _
   | exact ih1 _ _ _ _
   | exact ih2 _ _ _ _ _
   | exact LeO.none _
   | refine LeO.ite ?_ ?_
   | refine LeO.bind ?_ (fun _ => ?_)
theorem impl_GetPrefix.mono : ∀ a0 a1 a2 k, LeO (impl_GetPrefix.f k a0 a1 a2) (impl_GetPrefix.f (k + 1) a0 a1 a2) := by
 intro a0 a1 a2 k
 obtain ⟨ih0, ih1, ih2⟩ := impl_GetPrefix.mono_l k
 unfold impl_GetPrefix.f
 repeat' first
   | (with_reducible exact ih0 _ _ _ _)
   | (with_reducible exact ih1 _ _ _ _)
   | (with_reducible exact ih2 _ _ _ _ _)
   | (with_reducible exact LeO.refl _)
   | (with_reducible exact LeO.none _)
   | (with_reducible refine LeO.ite ?_ ?_)
   | (with_reducible refine LeO.bind ?_ (fun _ => ?_))
   | exact ih0 _ _ _ _
   | exact ih1 _ _ _ _
   | exact ih2 _ _ _ _ _
   | exact LeO.none _
   | refine LeO.ite ?_ ?_
   | refine LeO.bind ?_ (fun _ => ?_)
set_option maxHeartbeats 8000000 in
set_option maxRecDepth 100000 in
theorem impl_GetPrefix.calls (k : Nat) (A0 : Option Addr) (c0 : Nat) (l0 : List Int) (a1 : Int) (a2 : Int) (r1 : Int) (r2 : Int) (r3 : Bool) (w : World) (hr0 : Kd.C (Kd.int .u8) w A0 l0.length l0) (hc0 : l0.length ≤ c0) (h : impl_GetPrefix.f k l0 a1 a2 = some (r1, r2, r3)) :
  Calls Tryd.prog 55 #[.slice A0 l0.length c0, .int .i64 a1, .int .i64 a2] w fun e w' => e = .returned (.tuple #[.int .i64 r1, .int .i64 r2, .bool r3]) ∧ Drawn0 w w' := by
 have HR0 := Aside0.mk hr0
 have HC0 := Aside0.mk hc0
 clear hr0 hc0
 have H : ((impl_inRange.f a2 1 8).bind fun t426 => (if t426 = true then ((impl_inRange.f a1 0 (wrap64 ((l0.length : Int) - 1))).bind fun t427 => (impl_GetPrefix.j0 k l0 a1 a2 (!t427))) else (impl_GetPrefix.j0 k l0 a1 a2 true))) = some (r1, r2, r3) := h
 clear h
 have HC4 := Aside0.mk H
 clear H
 go_enter Tryd.func55, Tryd.ntmps55
 go_upto_region 1 with (fail)
 go_cut [23] (fun v23 wc => ∃ (kq : Nat) (x23_3 : Bool), v23 = .bool x23_3 ∧ Aside0 (impl_GetPrefix.j0 kq l0 a1 a2 x23_3 = some (r1, r2, r3)) ∧ Aside0 (kq ≤ k) ∧ Drawn0 w wc)
 case first =>
  have H := HC4.out
  clear HC4
  replace H := Option.bind_eq_some_iff.mp H
  obtain ⟨t426, A50, H⟩ := H
  replace H : (if t426 = true then ((impl_inRange.f a1 0 (wrap64 ((l0.length : Int) - 1))).bind fun t427 => (impl_GetPrefix.j0 k l0 a1 a2 (!t427))) else (impl_GetPrefix.j0 k l0 a1 a2 true)) = some (r1, r2, r3) := H
  have A5 := Aside0.mk A50
  clear A50
  by_cases c6 : t426 = true
  ·
   subst c6
   have H1 : ((impl_inRange.f a1 0 (wrap64 ((l0.length : Int) - 1))).bind fun t427 => (impl_GetPrefix.j0 k l0 a1 a2 (!t427))) = some (r1, r2, r3) := by rw [if_pos rfl] at H; exact H
   clear H
   have H := H1
   clear H1
   replace H := Option.bind_eq_some_iff.mp H
   obtain ⟨t427, A70, H⟩ := H
   replace H : (impl_GetPrefix.j0 k l0 a1 a2 (!t427)) = some (r1, r2, r3) := H
   have A7 := Aside0.mk A70
   clear A70
   have H' := Aside0.mk H
   clear H
   go_wp2_with (first | ((with_reducible refine gate_callee (f := 40) rfl ?_); refine goesL_ (some 14) rfl rfl Tryd.func40 (by kernel_rfl) rfl #[.int .i64 a2, .int .i64 1, .int .i64 8] rfl (by (try simp only [List.map_toArray, List.map_cons, List.map_nil]); first | done | rfl | (simp only [List.length_drop, List.length_take]; rfl)) ?_; (with_reducible refine (impl_inRange.calls a2 1 8 true _ A5.out).mono ?_); rintro e w' ⟨rfl, ⟨nd, rfl⟩⟩; refine ⟨_, rfl, ?_⟩) | (go_at_call 40; (with_reducible refine (impl_inRange.calls a1 0 (wrap64 ((l0.length : Int) - 1)) t427 _ A7.out).mono ?_); rintro e w' ⟨rfl, ⟨nd, rfl⟩⟩))
   go_meet
   case rel => exact ⟨_, (!t427), (by first | rfl | (simp; done) | (simp [*]; done)), H', ⟨by first | omega | exact Nat.le_refl _⟩, by repeat (first | exact Drawn0.refl _ | apply Drawn0.step)⟩
  ·
   replace c6 := Bool.eq_false_iff.mpr c6
   subst c6
   have H1 : (impl_GetPrefix.j0 k l0 a1 a2 true) = some (r1, r2, r3) := by rw [if_neg (show ¬ (false = true) by decide)] at H; exact H
   clear H
   have H := H1
   clear H1
   have H' := Aside0.mk H
   clear H
   go_wp2_with (first | ((with_reducible refine gate_callee (f := 40) rfl ?_); refine goesL_ (some 14) rfl rfl Tryd.func40 (by kernel_rfl) rfl #[.int .i64 a2, .int .i64 1, .int .i64 8] rfl (by (try simp only [List.map_toArray, List.map_cons, List.map_nil]); first | done | rfl | (simp only [List.length_drop, List.length_take]; rfl)) ?_; (with_reducible refine (impl_inRange.calls a2 1 8 false _ A5.out).mono ?_); rintro e w' ⟨rfl, ⟨nd, rfl⟩⟩; refine ⟨_, rfl, ?_⟩))
   go_meet
   case rel => exact ⟨_, (true), (by first | rfl | (simp; done) | (simp [*]; done)), H', ⟨by first | omega | exact Nat.le_refl _⟩, by repeat (first | exact Drawn0.refl _ | apply Drawn0.step)⟩
 case rest =>
  clear HC4
  try clear p2
  try clear c4
  try clear c5
  try clear c6
  try clear p6
  obtain ⟨kq, x23_3, rfl, HA, HJ3, ⟨mc3, rfl⟩⟩ := hcut
  cases kq with
  | zero => exact absurd HA.out (by simp [impl_GetPrefix.j0])
  | succ kj3 =>
   have H := HA.out
   clear HA
   simp only [impl_GetPrefix.j0] at H
   by_cases c8 : x23_3 = true
   ·
    subst c8
    have H1 : (some (0, 0, false)) = some (r1, r2, r3) := by rw [if_pos rfl] at H; exact H
    clear H
    have H := H1
    clear H1
    simp only [Option.some.injEq, Prod.mk.injEq] at H
    obtain ⟨rfl, rfl, rfl⟩ := H
    go_wp2
    go_ret3
    exact ⟨by first | rfl | (simp; done) | (simp [*]; done), by repeat (first | exact Drawn0.refl _ | apply Drawn0.step)⟩
   ·
    replace c8 := Bool.eq_false_iff.mpr c8
    subst c8
    have H1 : (if 0 ≤ (IntKind.u64.wrap (a2)) then (if 0 ≤ a1 then (if a1 < (l0.length : Int) then (if (Go.bits .and .i64 (wrap64 (rd l0 a1)) (wrap64 ((shl .i64 1 (IntKind.u64.wrap (a2))) - 1))) < (wrap64 ((shl .i64 1 (IntKind.u64.wrap (a2))) - 1)) then (some (Go.bits .and .i64 (wrap64 (rd l0 a1)) (wrap64 ((shl .i64 1 (IntKind.u64.wrap (a2))) - 1)), wrap64 (a1 + 1), true)) else (impl_GetPrefix.l0 kj3 l0 (wrap64 (a1 + 1)) (Go.bits .and .i64 (wrap64 (rd l0 a1)) (wrap64 ((shl .i64 1 (IntKind.u64.wrap (a2))) - 1))) 0)) else (none)) else (none)) else (none)) = some (r1, r2, r3) := by rw [if_neg (show ¬ (false = true) by decide)] at H; exact H
    clear H
    have H := H1
    clear H1
    obtain ⟨ji9, hji9⟩ : ∃ j_ : Int, (IntKind.u64.wrap (a2)) = j_ := ⟨_, rfl⟩
    replace H : (if 0 ≤ (ji9) then (if 0 ≤ a1 then (if a1 < (l0.length : Int) then (if (Go.bits .and .i64 (wrap64 (rd l0 a1)) (wrap64 ((shl .i64 1 (ji9)) - 1))) < (wrap64 ((shl .i64 1 (ji9)) - 1)) then (some (Go.bits .and .i64 (wrap64 (rd l0 a1)) (wrap64 ((shl .i64 1 (ji9)) - 1)), wrap64 (a1 + 1), true)) else (impl_GetPrefix.l0 kj3 l0 (wrap64 (a1 + 1)) (Go.bits .and .i64 (wrap64 (rd l0 a1)) (wrap64 ((shl .i64 1 (ji9)) - 1))) 0)) else (none)) else (none)) else (none)) = some (r1, r2, r3) := by first | (rw [hji9] at H; exact H) | (simp only [hji9] at H ⊢; exact H)
    by_cases c10 : 0 ≤ (ji9)
    ·
     rw [if_pos c10] at H
     have c10b0 := eq_true c10
     have c10b1 : decide (0 ≤ (ji9)) = true := decide_eq_true c10
     clear c10
     obtain ⟨ji11, hji11⟩ : ∃ j_ : Int, (shl .i64 1 (ji9)) = j_ := ⟨_, rfl⟩
     replace H : (if 0 ≤ a1 then (if a1 < (l0.length : Int) then (if (Go.bits .and .i64 (wrap64 (rd l0 a1)) (wrap64 ((ji11) - 1))) < (wrap64 ((ji11) - 1)) then (some (Go.bits .and .i64 (wrap64 (rd l0 a1)) (wrap64 ((ji11) - 1)), wrap64 (a1 + 1), true)) else (impl_GetPrefix.l0 kj3 l0 (wrap64 (a1 + 1)) (Go.bits .and .i64 (wrap64 (rd l0 a1)) (wrap64 ((ji11) - 1))) 0)) else (none)) else (none)) = some (r1, r2, r3) := by first | (rw [hji11] at H; exact H) | (simp only [hji11] at H ⊢; exact H)
     have hji11_ : (IntKind.i64.wrap (1 * 2 ^ min (ji9).toNat 64)) = ji11 := hji11
     have hji11z : (ji9) ≤ 64 → (IntKind.i64.wrap (1 * 2 ^ (ji9).toNat)) = ji11 := shl_small hji11
     have hji11u : (IntKind.i64.wrap (2 ^ min (ji9).toNat 64)) = ji11 := by have h_ := hji11_; rw [Int.one_mul] at h_; exact h_
     have hji11v : (ji9) ≤ 64 → (IntKind.i64.wrap (2 ^ (ji9).toNat)) = ji11 := fun hle_ => by have h_ := hji11z hle_; rw [Int.one_mul] at h_; exact h_
     have hji11y : (wrap64 (1 * 2 ^ min (ji9).toNat 64)) = ji11 := (i64_w _).symm.trans hji11_
     have hji11x : (ji9) ≤ 64 → (wrap64 (1 * 2 ^ (ji9).toNat)) = ji11 := fun h_ => (i64_w _).symm.trans (hji11z h_)
     by_cases c12 : 0 ≤ a1
     ·
      rw [if_pos c12] at H
      have c12b0 : decide (0 ≤ a1) = true := decide_eq_true c12
      clear c12
      by_cases c13 : a1 < (l0.length : Int)
      ·
       rw [if_pos c13] at H
       have c13b0 : decide (a1 < (l0.length : Int)) = true := decide_eq_true c13
       clear c13
       by_cases c14 : (Go.bits .and .i64 (wrap64 (rd l0 a1)) (wrap64 ((ji11) - 1))) < (wrap64 ((ji11) - 1))
       ·
        rw [if_pos c14] at H
        have c14b0 : decide ((Go.bits .and .i64 (wrap64 (rd l0 a1)) (wrap64 ((ji11) - 1))) < (wrap64 ((ji11) - 1))) = true := decide_eq_true c14
        clear c14
        simp only [Option.some.injEq, Prod.mk.injEq] at H
        obtain ⟨rfl, rfl, rfl⟩ := H
        have p428 : 0 ≤ (a1 : Int) := of_decide_eq_true (by first | (with_reducible assumption) | assumption)
        have q428 : a1 < (l0.length : Int) := of_decide_eq_true (by first | (with_reducible assumption) | assumption)
        obtain ⟨ad428, e428, hx428_0⟩ := Kd.at_int HR0.out a1 p428 q428
        cases e428
        replace p428 := eq_true p428
        replace q428 := eq_true q428
        go_wp2
        go_ret3
        exact ⟨by first | rfl | (simp; done) | (simp only [← hji9, ← hji11] <;> (first | rfl | simp)) | (simp [*]; done), by repeat (first | exact Drawn0.refl _ | apply Drawn0.step)⟩
       ·
        rw [if_neg c14] at H
        have c14b0 : decide ((Go.bits .and .i64 (wrap64 (rd l0 a1)) (wrap64 ((ji11) - 1))) < (wrap64 ((ji11) - 1))) = false := decide_eq_false c14
        clear c14
        have H' := Aside0.mk H
        clear H
        have p428 : 0 ≤ (a1 : Int) := of_decide_eq_true (by first | (with_reducible assumption) | assumption)
        have q428 : a1 < (l0.length : Int) := of_decide_eq_true (by first | (with_reducible assumption) | assumption)
        obtain ⟨ad428, e428, hx428_0⟩ := Kd.at_int HR0.out a1 p428 q428
        cases e428
        replace p428 := eq_true p428
        replace q428 := eq_true q428
        go_wp2
        go_loopg [1, 10, 11] kj3 (fun kq v1 v10 v11 w' => ∃ (x1_2 : Int) (x10_2 : Int) (x11_2 : Int), v1 = .int .i64 x1_2 ∧ v10 = .int .i64 x10_2 ∧ v11 = .int .i64 x11_2 ∧ Aside0 (impl_GetPrefix.l0 kq l0 x1_2 x10_2 x11_2 = some (r1, r2, r3)) ∧ Aside0 (kq ≤ kj3) ∧ Drawn0 w w')
        case atStart => exact ⟨(wrap64 (a1 + 1)), (Go.bits .and .i64 (wrap64 (rd l0 a1)) (wrap64 ((ji11) - 1))), (0), (by first | rfl | (simp; done) | (simp [*]; done)), (by first | rfl | (simp; done) | (simp only [← hji11] <;> (first | rfl | simp)) | (simp [*]; done)), (by first | rfl | (simp; done) | (simp [*]; done)), H', ⟨Nat.le_refl _⟩, by repeat (first | exact Drawn0.refl _ | apply Drawn0.step)⟩
        case round =>
         clear H'
         try clear c1
         try clear p2
         try clear c3
         try clear c4
         try clear p4
         try clear q4
         try clear hx4
         try clear c5
         try clear c6
         try clear p6
         try clear c8
         try clear c10
         try clear c10b0
         try clear c10b1
         try clear c12
         try clear c12b0
         try clear c13
         try clear c13b0
         try clear c14
         try clear c14b0
         try clear hx428_0
         try clear p2
         try clear p428
         try clear p6
         try clear q428
         obtain ⟨x1_2, x10_2, x11_2, rfl, rfl, rfl, HA, HK2, ⟨m2, rfl⟩⟩ := hrel
         cases gk with
         | zero => exact absurd HA.out (by simp [impl_GetPrefix.l0])
         | succ k2 =>
          have H := HA.out
          clear HA
          simp only [impl_GetPrefix.l0] at H
          have HC15 := Aside0.mk H
          clear H
          go_upto_region 9 with (fail)
          go_cut [49] (fun v49 wc => ∃ (kq : Nat) (x49_14 : Bool), v49 = .bool x49_14 ∧ Aside0 (impl_GetPrefix.j2 kq l0 x1_2 x10_2 x11_2 x49_14 = some (r1, r2, r3)) ∧ Aside0 (kq ≤ k2) ∧ Drawn0 w wc)
          case first =>
           have H := HC15.out
           clear HC15
           by_cases c16 : x11_2 < 4
           ·
            rw [if_pos c16] at H
            have c16b0 : decide (x11_2 < 4) = true := decide_eq_true c16
            clear c16
            (first | rw [c16b0] | (simp only [i64_w, i32_w]; rw [c16b0]) | rw [c16b1] | skip)
            have H' := Aside0.mk H
            clear H
            go_wp2
            go_meet
            case rel => exact ⟨_, (decide (x1_2 < (l0.length : Int))), (by first | rfl | (simp; done) | (simp [*]; done)), H', ⟨by have := HJ3.out; have := HK2.out; first | omega | exact Nat.le_refl _⟩, by repeat (first | exact Drawn0.refl _ | apply Drawn0.step)⟩
           ·
            rw [if_neg c16] at H
            have c16b0 : decide (x11_2 < 4) = false := decide_eq_false c16
            clear c16
            (first | rw [c16b0] | (simp only [i64_w, i32_w]; rw [c16b0]) | rw [c16b1] | skip)
            have H' := Aside0.mk H
            clear H
            go_wp2
            go_meet
            case rel => exact ⟨_, (false), (by first | rfl | (simp; done) | (simp [*]; done)), H', ⟨by have := HJ3.out; have := HK2.out; first | omega | exact Nat.le_refl _⟩, by repeat (first | exact Drawn0.refl _ | apply Drawn0.step)⟩
          case rest =>
           clear HC15
           try clear c1
           try clear p2
           try clear c3
           try clear c4
           try clear p4
           try clear q4
           try clear hx4
           try clear c5
           try clear c6
           try clear p6
           try clear c8
           try clear c10
           try clear c10b0
           try clear c10b1
           try clear c12
           try clear c12b0
           try clear c13
           try clear c13b0
           try clear c14
           try clear c14b0
           try clear c16
           try clear c16b0
           try clear c16b1
           try clear hx428_0
           try clear p2
           try clear p4
           try clear p428
           try clear p6
           try clear q4
           try clear q428
           obtain ⟨kq, x49_14, rfl, HA, HJ14, ⟨mc14, rfl⟩⟩ := hcut
           cases kq with
           | zero => exact absurd HA.out (by simp [impl_GetPrefix.j2])
           | succ kj14 =>
            have H := HA.out
            clear HA
            simp only [impl_GetPrefix.j2] at H
            by_cases c17 : x49_14 = true
            ·
             subst c17
             have H1 : (if 0 ≤ x1_2 then (if x1_2 < (l0.length : Int) then (if 0 ≤ (IntKind.u64.wrap (wrap64 (7 * x11_2))) then (if (wrap64 (rd l0 x1_2)) < 128 then (if (wrap64 (x10_2 + (shl .i64 (Go.bits .and .i64 (wrap64 (rd l0 x1_2)) 127) (IntKind.u64.wrap (wrap64 (7 * x11_2)))))) > 16777216 then (some (0, 0, false)) else (some (wrap64 (x10_2 + (shl .i64 (Go.bits .and .i64 (wrap64 (rd l0 x1_2)) 127) (IntKind.u64.wrap (wrap64 (7 * x11_2))))), wrap64 (x1_2 + 1), true))) else (impl_GetPrefix.l0 kj14 l0 (wrap64 (x1_2 + 1)) (wrap64 (x10_2 + (shl .i64 (Go.bits .and .i64 (wrap64 (rd l0 x1_2)) 127) (IntKind.u64.wrap (wrap64 (7 * x11_2)))))) (wrap64 (x11_2 + 1)))) else (none)) else (none)) else (none)) = some (r1, r2, r3) := by rw [if_pos rfl] at H; exact H
             clear H
             have H := H1
             clear H1
             by_cases c18 : 0 ≤ x1_2
             ·
              rw [if_pos c18] at H
              have c18b0 : decide (0 ≤ x1_2) = true := decide_eq_true c18
              clear c18
              by_cases c19 : x1_2 < (l0.length : Int)
              ·
               rw [if_pos c19] at H
               have c19b0 : decide (x1_2 < (l0.length : Int)) = true := decide_eq_true c19
               clear c19
               obtain ⟨ji20, hji20⟩ : ∃ j_ : Int, (IntKind.u64.wrap (wrap64 (7 * x11_2))) = j_ := ⟨_, rfl⟩
               replace H : (if 0 ≤ (ji20) then (if (wrap64 (rd l0 x1_2)) < 128 then (if (wrap64 (x10_2 + (shl .i64 (Go.bits .and .i64 (wrap64 (rd l0 x1_2)) 127) (ji20)))) > 16777216 then (some (0, 0, false)) else (some (wrap64 (x10_2 + (shl .i64 (Go.bits .and .i64 (wrap64 (rd l0 x1_2)) 127) (ji20))), wrap64 (x1_2 + 1), true))) else (impl_GetPrefix.l0 kj14 l0 (wrap64 (x1_2 + 1)) (wrap64 (x10_2 + (shl .i64 (Go.bits .and .i64 (wrap64 (rd l0 x1_2)) 127) (ji20)))) (wrap64 (x11_2 + 1)))) else (none)) = some (r1, r2, r3) := by first | (rw [hji20] at H; exact H) | (simp only [hji20] at H ⊢; exact H)
               by_cases c21 : 0 ≤ (ji20)
               ·
                rw [if_pos c21] at H
                have c21b0 := eq_true c21
                have c21b1 : decide (0 ≤ (ji20)) = true := decide_eq_true c21
                clear c21
                obtain ⟨ji22, hji22⟩ : ∃ j_ : Int, (shl .i64 (Go.bits .and .i64 (wrap64 (rd l0 x1_2)) 127) (ji20)) = j_ := ⟨_, rfl⟩
                replace H : (if (wrap64 (rd l0 x1_2)) < 128 then (if (wrap64 (x10_2 + (ji22))) > 16777216 then (some (0, 0, false)) else (some (wrap64 (x10_2 + (ji22)), wrap64 (x1_2 + 1), true))) else (impl_GetPrefix.l0 kj14 l0 (wrap64 (x1_2 + 1)) (wrap64 (x10_2 + (ji22))) (wrap64 (x11_2 + 1)))) = some (r1, r2, r3) := by first | (rw [hji22] at H; exact H) | (simp only [hji22] at H ⊢; exact H)
                have hji22_ : (IntKind.i64.wrap ((Go.bits .and .i64 (wrap64 (rd l0 x1_2)) 127) * 2 ^ min (ji20).toNat 64)) = ji22 := hji22
                have hji22z : (ji20) ≤ 64 → (IntKind.i64.wrap ((Go.bits .and .i64 (wrap64 (rd l0 x1_2)) 127) * 2 ^ (ji20).toNat)) = ji22 := shl_small hji22
                have hji22y : (wrap64 ((Go.bits .and .i64 (wrap64 (rd l0 x1_2)) 127) * 2 ^ min (ji20).toNat 64)) = ji22 := (i64_w _).symm.trans hji22_
                have hji22x : (ji20) ≤ 64 → (wrap64 ((Go.bits .and .i64 (wrap64 (rd l0 x1_2)) 127) * 2 ^ (ji20).toNat)) = ji22 := fun h_ => (i64_w _).symm.trans (hji22z h_)
                by_cases c23 : (wrap64 (rd l0 x1_2)) < 128
                ·
                 rw [if_pos c23] at H
                 have c23b0 : decide ((wrap64 (rd l0 x1_2)) < 128) = true := decide_eq_true c23
                 clear c23
                 by_cases c24 : (wrap64 (x10_2 + (ji22))) > 16777216
                 ·
                  rw [if_pos c24] at H
                  have c24b0 : decide (16777216 < (wrap64 (x10_2 + (ji22)))) = true := decide_eq_true c24
                  clear c24
                  simp only [Option.some.injEq, Prod.mk.injEq] at H
                  obtain ⟨rfl, rfl, rfl⟩ := H
                  have p429 : 0 ≤ (x1_2 : Int) := of_decide_eq_true (by first | (with_reducible assumption) | assumption)
                  have q429 : x1_2 < (l0.length : Int) := of_decide_eq_true (by first | (with_reducible assumption) | assumption)
                  obtain ⟨ad429, e429, hx429_0⟩ := Kd.at_int HR0.out x1_2 p429 q429
                  obtain rfl : ad428 = ad429 := (by injection e429)
                  replace p429 := eq_true p429
                  replace q429 := eq_true q429
                  go_wp2
                  go_ret3
                  exact ⟨by first | rfl | (simp; done) | (simp only [← hji9, ← hji11, ← hji20, ← hji22] <;> (first | rfl | simp)) | (simp [*]; done), by repeat (first | exact Drawn0.refl _ | apply Drawn0.step)⟩
                 ·
                  rw [if_neg c24] at H
                  have c24b0 : decide (16777216 < (wrap64 (x10_2 + (ji22)))) = false := decide_eq_false c24
                  clear c24
                  simp only [Option.some.injEq, Prod.mk.injEq] at H
                  obtain ⟨rfl, rfl, rfl⟩ := H
                  have p429 : 0 ≤ (x1_2 : Int) := of_decide_eq_true (by first | (with_reducible assumption) | assumption)
                  have q429 : x1_2 < (l0.length : Int) := of_decide_eq_true (by first | (with_reducible assumption) | assumption)
                  obtain ⟨ad429, e429, hx429_0⟩ := Kd.at_int HR0.out x1_2 p429 q429
                  obtain rfl : ad428 = ad429 := (by injection e429)
                  replace p429 := eq_true p429
                  replace q429 := eq_true q429
                  go_wp2
                  go_ret3
                  exact ⟨by first | rfl | (simp; done) | (simp only [← hji9, ← hji11, ← hji20, ← hji22] <;> (first | rfl | simp)) | (simp [*]; done), by repeat (first | exact Drawn0.refl _ | apply Drawn0.step)⟩
                ·
                 rw [if_neg c23] at H
                 have c23b0 : decide ((wrap64 (rd l0 x1_2)) < 128) = false := decide_eq_false c23
                 clear c23
                 have H' := Aside0.mk H
                 clear H
                 have p429 : 0 ≤ (x1_2 : Int) := of_decide_eq_true (by first | (with_reducible assumption) | assumption)
                 have q429 : x1_2 < (l0.length : Int) := of_decide_eq_true (by first | (with_reducible assumption) | assumption)
                 obtain ⟨ad429, e429, hx429_0⟩ := Kd.at_int HR0.out x1_2 p429 q429
                 obtain rfl : ad428 = ad429 := (by injection e429)
                 replace p429 := eq_true p429
                 replace q429 := eq_true q429
                 go_wp2
                 go_roundg kj14
                 case measure => have := HJ3.out; have := HK2.out; have := HJ14.out; omega
                 case rel => exact ⟨(wrap64 (x1_2 + 1)), (wrap64 (x10_2 + (ji22))), (wrap64 (x11_2 + 1)), (by first | rfl | (simp; done) | (simp [*]; done)), (by first | rfl | (simp; done) | (simp only [← hji22] <;> (first | rfl | simp)) | (simp [*]; done)), (by first | rfl | (simp; done) | (simp [*]; done)), H', ⟨by have := HJ3.out; have := HK2.out; have := HJ14.out; omega⟩, by repeat (first | exact Drawn0.refl _ | apply Drawn0.step)⟩
               ·
                rw [if_neg c21] at H
                exact absurd H (by simp)
              ·
               rw [if_neg c19] at H
               exact absurd H (by simp)
             ·
              rw [if_neg c18] at H
              exact absurd H (by simp)
            ·
             replace c17 := Bool.eq_false_iff.mpr c17
             subst c17
             have H1 : (some (0, 0, false)) = some (r1, r2, r3) := by rw [if_neg (show ¬ (false = true) by decide)] at H; exact H
             clear H
             have H := H1
             clear H1
             simp only [Option.some.injEq, Prod.mk.injEq] at H
             obtain ⟨rfl, rfl, rfl⟩ := H
             go_wp2
             go_ret3
             exact ⟨by first | rfl | (simp; done) | (simp only [← hji9, ← hji11] <;> (first | rfl | simp)) | (simp [*]; done), by repeat (first | exact Drawn0.refl _ | apply Drawn0.step)⟩
      ·
       rw [if_neg c13] at H
       exact absurd H (by simp)
     ·
      rw [if_neg c12] at H
      exact absurd H (by simp)
    ·
     rw [if_neg c10] at H
     exact absurd H (by simp)

end Go.Proofs.YthflimnpiglgbaaDoor.A
