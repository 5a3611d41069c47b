/- Written by a program of this session, out of the translation: functions as plain Lean functions, and that the machine's calls answer as they do. Condition: none beyond each theorem's own. -/
import Derived.Test.YtkhcnmjgojkkoaaAx0
import Derived.Test.YtkhcnmjgojkkoaaAx32
namespace Go.Proofs.Ytkhcnmjgojkkoaa.A
open Go.RowKit Go.Proofs.YtkhcnmjgojkkoaaW.PrintWords Go.Proofs.YtkhcnmjgojkkoaaW.PrintLast Go.Proofs.YtkhcnmjgojkkoaaW.PrintMore
attribute [local go_sem] max2_int min2_int max_two min_two max_three min_three max_four min_four   -- for this text's walks alone
set_option linter.unusedVariables false
set_option linter.unusedSimpArgs false

/-! ### impl_WindowOf: function 40 -/
def impl_WindowOf.j0 : Nat → Int → Bool → Option (Int × Bool)
 | 0, _, _ => none
 | k + 1, x4, x23 => if x23 = true then (some (0, false)) else (some (x4, true))
def impl_WindowOf.f (k : Nat) (l0 : List Int) : Option (Int × Bool) := (impl_GetBig.f k l0 0 4).bind fun bt536 => (if bt536.2 = true then (if (l0.length : Int) = 4 then (impl_WindowOf.j0 k (Go.bits .and .i64 bt536.1 2147483647) ((Go.bits .and .i64 bt536.1 2147483647) == 0)) else (impl_WindowOf.j0 k (Go.bits .and .i64 bt536.1 2147483647) true)) else (impl_WindowOf.j0 k (Go.bits .and .i64 bt536.1 2147483647) true))
theorem impl_WindowOf.mono_l : ∀ k, (∀ y0 y1, LeO (impl_WindowOf.j0 k y0 y1) (impl_WindowOf.j0 (k + 1) y0 y1))
 | 0 => fun _ _ r h => by simp [impl_WindowOf.j0] at h
 | k + 1 => by
  have ih0 := impl_WindowOf.mono_l k
  ·
   intro y0 y1
   unfold impl_WindowOf.j0
   repeat' first
   | (with_reducible exact ih0 _ _)
   | (with_reducible exact impl_GetBig.mono _ _ _ _)
   | (with_reducible exact LeO.refl _)
   | (with_reducible exact LeO.none _)
   | (with_reducible refine LeO.ite ?_ ?_)
   | (with_reducible refine LeO.bind ?_ (fun _ => ?_))
   | exact ih0 _ _
   | exact impl_GetBig.mono _ _ _ _
   | exact LeO.none _
   | refine LeO.ite ?_ ?_
   | refine LeO.bind ?_ (fun _ => ?_)
theorem impl_WindowOf.mono : ∀ a0 k, LeO (impl_WindowOf.f k a0) (impl_WindowOf.f (k + 1) a0) := by
 intro a0 k
 have ih0 := impl_WindowOf.mono_l k
 unfold impl_WindowOf.f
 repeat' first
   | (with_reducible exact ih0 _ _)
   | (with_reducible exact impl_GetBig.mono _ _ _ _)
   | (with_reducible exact LeO.refl _)
   | (with_reducible exact LeO.none _)
   | (with_reducible refine LeO.ite ?_ ?_)
   | (with_reducible refine LeO.bind ?_ (fun _ => ?_))
   | exact ih0 _ _
   | exact impl_GetBig.mono _ _ _ _
   | exact LeO.none _
   | refine LeO.ite ?_ ?_
   | refine LeO.bind ?_ (fun _ => ?_)
set_option maxHeartbeats 8000000 in
set_option maxRecDepth 100000 in
theorem impl_WindowOf.calls (k : Nat) (A0 : Option Addr) (c0 : Nat) (l0 : List Int) (r1 : Int) (r2 : Bool) (w : World) (hr0 : Kd.C (Kd.int .u8) w A0 l0.length l0) (hc0 : l0.length ≤ c0) (h : impl_WindowOf.f k l0 = some (r1, r2)) :
  Calls Try.prog 40 #[.slice A0 l0.length c0] w fun e w' => e = .returned (.tuple #[.int .i64 r1, .bool r2]) ∧ Drawn0 w w' := by
 have HR0 := Aside0.mk hr0
 have HC0 := Aside0.mk hc0
 clear hr0 hc0
 have H : ((impl_GetBig.f k l0 0 4).bind fun bt536 => (if bt536.2 = true then (if (l0.length : Int) = 4 then (impl_WindowOf.j0 k (Go.bits .and .i64 bt536.1 2147483647) ((Go.bits .and .i64 bt536.1 2147483647) == 0)) else (impl_WindowOf.j0 k (Go.bits .and .i64 bt536.1 2147483647) true)) else (impl_WindowOf.j0 k (Go.bits .and .i64 bt536.1 2147483647) true))) = some (r1, r2) := h
 clear h
 replace H := Option.bind_eq_some_iff.mp H
 obtain ⟨⟨t536, t537⟩, A20, H⟩ := H
 replace H : (if t537 = true then (if (l0.length : Int) = 4 then (impl_WindowOf.j0 k (Go.bits .and .i64 t536 2147483647) ((Go.bits .and .i64 t536 2147483647) == 0)) else (impl_WindowOf.j0 k (Go.bits .and .i64 t536 2147483647) true)) else (impl_WindowOf.j0 k (Go.bits .and .i64 t536 2147483647) true)) = some (r1, r2) := H
 have A2 := Aside0.mk A20
 clear A20
 have HC3 := Aside0.mk H
 clear H
 go_enter Try.func40, Try.ntmps40
 go_upto_region 3 with (first | ((with_reducible refine gate_callee (f := 78) rfl ?_); refine goesL_ (some 8) rfl rfl Try.func78 (by kernel_rfl) rfl #[.slice A0 l0.length c0, .int .i64 0, .int .i64 4] rfl (by (try simp only [List.map_toArray, List.map_cons, List.map_nil]); first | done | rfl | (simp only [List.length_drop, List.length_take]; rfl)) ?_; (with_reducible refine (impl_GetBig.calls k _ _ l0 0 4 t536 t537 _ ?side1 ?side2 A2.out).mono ?_); (case side1 => repeat (first | exact HR0.out | (with_reducible refine Kd.C_alloc ?_ _) | (with_reducible refine Kd.C_drewN ?_ _) | (with_reducible refine Kd.C_drew ?_))); (case side2 => exact HC0.out); rintro e w' ⟨rfl, ⟨nd, rfl⟩⟩; refine ⟨_, rfl, ?_⟩))
 (try simp only [Act.put, List.setIfInBounds_toArray, List.set_cons_zero, List.set_cons_succ])
 go_cut [23] (fun v23 wc => ∃ (kq : Nat) (x23_2 : Bool), v23 = .bool x23_2 ∧ Aside0 (impl_WindowOf.j0 kq (Go.bits .and .i64 t536 2147483647) x23_2 = some (r1, r2)) ∧ Aside0 (kq ≤ k) ∧ Drawn0 w wc)
 case first =>
  have H := HC3.out
  clear HC3
  by_cases c4 : t537 = true
  ·
   subst c4
   have H1 : (if (l0.length : Int) = 4 then (impl_WindowOf.j0 k (Go.bits .and .i64 t536 2147483647) ((Go.bits .and .i64 t536 2147483647) == 0)) else (impl_WindowOf.j0 k (Go.bits .and .i64 t536 2147483647) true)) = some (r1, r2) := by rw [if_pos rfl] at H; exact H
   clear H
   have H := H1
   clear H1
   by_cases c5 : (l0.length : Int) = 4
   ·
    rw [if_pos c5] at H
    have c5b0 : ((l0.length : Int) == 4) = true := beq_iff_eq.mpr c5
    have c5b1 : ((l0.length : Int) != 4) = false := bne_eq_false_iff_eq.mpr c5
    clear c5
    (first | rw [c5b0] | (simp only [i64_w, i32_w]; rw [c5b0]) | skip)
    have H' := Aside0.mk H
    clear H
    go_wp2
    go_meet
    case rel => exact ⟨_, (((Go.bits .and .i64 t536 2147483647) == 0)), (by first | rfl | (simp; done) | (simp [*]; done)), H', ⟨by first | omega | exact Nat.le_refl _⟩, by repeat (first | exact Drawn0.refl _ | apply Drawn0.step)⟩
   ·
    rw [if_neg c5] at H
    have c5b0 : ((l0.length : Int) == 4) = false := beq_eq_false_iff_ne.mpr c5
    have c5b1 : ((l0.length : Int) != 4) = true := bne_iff_ne.mpr c5
    (first | rw [c5b0] | (simp only [i64_w, i32_w]; rw [c5b0]) | skip)
    have H' := Aside0.mk H
    clear H
    go_wp2
    go_meet
    case rel => exact ⟨_, (true), (by first | rfl | (simp; done) | (simp [*]; done)), H', ⟨by first | omega | exact Nat.le_refl _⟩, by repeat (first | exact Drawn0.refl _ | apply Drawn0.step)⟩
  ·
   replace c4 := Bool.eq_false_iff.mpr c4
   subst c4
   have H1 : (impl_WindowOf.j0 k (Go.bits .and .i64 t536 2147483647) true) = some (r1, r2) := by rw [if_neg (show ¬ (false = true) by decide)] at H; exact H
   clear H
   have H := H1
   clear H1
   have H' := Aside0.mk H
   clear H
   go_wp2
   go_meet
   case rel => exact ⟨_, (true), (by first | rfl | (simp; done) | (simp [*]; done)), H', ⟨by first | omega | exact Nat.le_refl _⟩, by repeat (first | exact Drawn0.refl _ | apply Drawn0.step)⟩
 case rest =>
  clear HC3
  try clear p2
  try clear c4
  try clear c5
  try clear c5b0
  try clear c5b1
  obtain ⟨kq, x23_2, rfl, HA, HJ2, ⟨mc2, rfl⟩⟩ := hcut
  cases kq with
  | zero => exact absurd HA.out (by simp [impl_WindowOf.j0])
  | succ kj2 =>
   have H := HA.out
   clear HA
   simp only [impl_WindowOf.j0] at H
   by_cases c6 : x23_2 = true
   ·
    subst c6
    have H1 : (some (0, false)) = some (r1, r2) := by rw [if_pos rfl] at H; exact H
    clear H
    have H := H1
    clear H1
    simp only [Option.some.injEq, Prod.mk.injEq] at H
    obtain ⟨rfl, rfl⟩ := H
    go_wp2
    go_ret2
    exact ⟨by first | rfl | (simp; done) | (simp [*]; done), by repeat (first | exact Drawn0.refl _ | apply Drawn0.step)⟩
   ·
    replace c6 := Bool.eq_false_iff.mpr c6
    subst c6
    have H1 : (some ((Go.bits .and .i64 t536 2147483647), true)) = some (r1, r2) := by rw [if_neg (show ¬ (false = true) by decide)] at H; exact H
    clear H
    have H := H1
    clear H1
    simp only [Option.some.injEq, Prod.mk.injEq] at H
    obtain ⟨rfl, rfl⟩ := H
    go_wp2
    go_ret2
    exact ⟨by first | rfl | (simp; done) | (simp [*]; done), by repeat (first | exact Drawn0.refl _ | apply Drawn0.step)⟩

end Go.Proofs.Ytkhcnmjgojkkoaa.A
