/- Written by a program of this session, out of the translation: functions as plain Lean functions, and that the machine's calls answer as they do. Condition: none beyond each theorem's own. -/
import Derived.Test.YthflimnpiglgbaaDoorAx0
import Derived.Test.YthflimnpiglgbaaDoorAx1
import Derived.Test.YthflimnpiglgbaaDoorAx18
import Derived.Test.YthflimnpiglgbaaDoorAx36
namespace Go.Proofs.YthflimnpiglgbaaDoor.A
open Go.RowKit Go.Proofs.YthflimnpiglgbaaDoorW.PrintWords Go.Proofs.YthflimnpiglgbaaDoorW.PrintLast Go.Proofs.YthflimnpiglgbaaDoorW.PrintMore
attribute [local go_sem] max2_int min2_int max_two min_two max_three min_three max_four min_four   -- for this text's walks alone
set_option linter.unusedVariables false
set_option linter.unusedSimpArgs false

/-! ### impl_GetString: function 36 -/
def impl_GetString.j0 : Nat → List Int → Int → Int → Int → Bool → Option (ByteArray × Int × Bool)
 | 0, _, _, _, _, _ => none
 | k + 1, x0, x1, x7, x8, x32 => if x32 = true then (some ((⟨#[]⟩ : ByteArray), 0, false)) else (if 0 ≤ x8 then (if x8 ≤ (wrap64 (x8 + x7)) then (if (wrap64 (x8 + x7)) ≤ (x0.length : Int) then ((some ((x0.take ((wrap64 (x8 + x7)) : Int).toNat).drop (x8 : Int).toNat : List Int)).bind fun y433 => (if 0 ≤ x1 then (if x1 < (x0.length : Int) then (if (rd x0 x1) < 128 then (some (strOfNums y433, wrap64 (x8 + x7), true)) else ((impl_UnHuff.f k y433).bind fun bt438 => (if bt438.2 = true then (if (bt438.1.size : Int) > 4000 then (some ((⟨#[]⟩ : ByteArray), 0, false)) else (some (bt438.1, wrap64 (x8 + x7), true))) else (some ((⟨#[]⟩ : ByteArray), 0, false))))) else (none)) else (none))) else (none)) else (none)) else (none))
def impl_GetString.f (k : Nat) (l0 : List Int) (a1 : Int) : Option (ByteArray × Int × Bool) := (impl_GetPrefix.f k l0 a1 7).bind fun bt430 => (if bt430.2.2 = true then (if bt430.1 > 4000 then (impl_GetString.j0 k l0 a1 bt430.1 bt430.2.1 true) else (impl_GetString.j0 k l0 a1 bt430.1 bt430.2.1 (decide (bt430.1 > (wrap64 ((l0.length : Int) - bt430.2.1)))))) else (impl_GetString.j0 k l0 a1 bt430.1 bt430.2.1 true))
theorem impl_GetString.mono_l : ∀ k, (∀ y0 y1 y2 y3 y4, LeO (impl_GetString.j0 k y0 y1 y2 y3 y4) (impl_GetString.j0 (k + 1) y0 y1 y2 y3 y4))
 | 0 => fun _ _ _ _ _ r h => by simp [impl_GetString.j0] at h
 | k + 1 => by
  have ih0 := impl_GetString.mono_l k
  ·
   intro y0 y1 y2 y3 y4
   unfold impl_GetString.j0
   repeat' first
   | (with_reducible exact ih0 _ _ _ _ _)
   | (with_reducible exact impl_GetPrefix.mono _ _ _ _)
   | (with_reducible exact impl_UnHuff.mono _ _)
   | (with_reducible exact LeO.refl _)
   | (with_reducible exact LeO.none _)
   | (with_reducible refine LeO.ite ?_ ?_)
   | (with_reducible refine LeO.bind ?_ (fun _ => ?_))
   | exact ih0 _ _ _ _ _
   | exact impl_GetPrefix.mono _ _ _ _
   | exact impl_UnHuff.mono _ _
   | exact LeO.none _
   | refine LeO.ite ?_ ?_
   | refine LeO.bind ?_ (fun _ => ?_)
theorem impl_GetString.mono : ∀ a0 a1 k, LeO (impl_GetString.f k a0 a1) (impl_GetString.f (k + 1) a0 a1) := by
 intro a0 a1 k
 have ih0 := impl_GetString.mono_l k
 unfold impl_GetString.f
 repeat' first
   | (with_reducible exact ih0 _ _ _ _ _)
   | (with_reducible exact impl_GetPrefix.mono _ _ _ _)
   | (with_reducible exact impl_UnHuff.mono _ _)
   | (with_reducible exact LeO.refl _)
   | (with_reducible exact LeO.none _)
   | (with_reducible refine LeO.ite ?_ ?_)
   | (with_reducible refine LeO.bind ?_ (fun _ => ?_))
   | exact ih0 _ _ _ _ _
   | exact impl_GetPrefix.mono _ _ _ _
   | exact impl_UnHuff.mono _ _
   | exact LeO.none _
   | refine LeO.ite ?_ ?_
   | refine LeO.bind ?_ (fun _ => ?_)
set_option maxHeartbeats 8000000 in
set_option maxRecDepth 100000 in
theorem impl_GetString.calls (k : Nat) (A0 : Option Addr) (c0 : Nat) (l0 : List Int) (a1 : Int) (r1 : ByteArray) (r2 : Int) (r3 : Bool) (w : World) (hr0 : Kd.C (Kd.int .u8) w A0 l0.length l0) (hc0 : l0.length ≤ c0) (ht : TB w) (h : impl_GetString.f k l0 a1 = some (r1, r2, r3)) :
  Calls Tryd.prog 36 #[.slice A0 l0.length c0, .int .i64 a1] w fun e w' => e = .returned (.tuple #[.string r1, .int .i64 r2, .bool r3]) ∧ Below w.heap.size w w' := by
 have HR0 := Aside0.mk hr0
 have HC0 := Aside0.mk hc0
 clear hr0 hc0
 have HB := Aside0.mk (Below.refl w.heap.size w)
 have H : ((impl_GetPrefix.f k l0 a1 7).bind fun bt430 => (if bt430.2.2 = true then (if bt430.1 > 4000 then (impl_GetString.j0 k l0 a1 bt430.1 bt430.2.1 true) else (impl_GetString.j0 k l0 a1 bt430.1 bt430.2.1 (decide (bt430.1 > (wrap64 ((l0.length : Int) - bt430.2.1)))))) else (impl_GetString.j0 k l0 a1 bt430.1 bt430.2.1 true))) = some (r1, r2, r3) := h
 clear h
 replace H := Option.bind_eq_some_iff.mp H
 obtain ⟨⟨t430, t431, t432⟩, A30, H⟩ := H
 replace H : (if t432 = true then (if t430 > 4000 then (impl_GetString.j0 k l0 a1 t430 t431 true) else (impl_GetString.j0 k l0 a1 t430 t431 (decide (t430 > (wrap64 ((l0.length : Int) - t431)))))) else (impl_GetString.j0 k l0 a1 t430 t431 true)) = some (r1, r2, r3) := H
 have A3 := Aside0.mk A30
 clear A30
 have HC4 := Aside0.mk H
 clear H
 go_enter Tryd.func36, Tryd.ntmps36
 go_upto_region 2 with (first | ((with_reducible refine gate_callee (f := 55) rfl ?_); refine goesL_ (some 15) rfl rfl Tryd.func55 (by kernel_rfl) rfl #[.slice A0 l0.length c0, .int .i64 a1, .int .i64 7] rfl (by (try simp only [List.map_toArray, List.map_cons, List.map_nil]); first | done | rfl | (simp only [List.length_drop, List.length_take]; rfl)) ?_; (with_reducible refine (impl_GetPrefix.calls k _ _ l0 a1 7 t430 t431 t432 _ ?side1 ?side2 A3.out).mono ?_); (case side1 => repeat (first | exact HR0.out | (with_reducible refine Kd.C_alloc ?_ _) | (with_reducible refine Kd.C_drewN ?_ _) | (with_reducible refine Kd.C_drew ?_))); (case side2 => exact HC0.out); rintro e w' ⟨rfl, ⟨nd, rfl⟩⟩; refine ⟨_, rfl, ?_⟩))
 (try simp only [Act.put, List.setIfInBounds_toArray, List.set_cons_zero, List.set_cons_succ])
 go_cut [32] (fun v32 wc => ∃ (kq : Nat) (x32_3 : Bool), v32 = .bool x32_3 ∧ Aside0 (impl_GetString.j0 kq l0 a1 t430 t431 x32_3 = some (r1, r2, r3)) ∧ Aside0 (kq ≤ k) ∧ Aside0 (Below w.heap.size w wc))
 case first =>
  have H := HC4.out
  clear HC4
  by_cases c5 : t432 = true
  ·
   subst c5
   have H1 : (if t430 > 4000 then (impl_GetString.j0 k l0 a1 t430 t431 true) else (impl_GetString.j0 k l0 a1 t430 t431 (decide (t430 > (wrap64 ((l0.length : Int) - t431)))))) = some (r1, r2, r3) := by rw [if_pos rfl] at H; exact H
   clear H
   have H := H1
   clear H1
   by_cases c6 : t430 > 4000
   ·
    rw [if_pos c6] at H
    have c6b0 : decide (4000 < t430) = true := decide_eq_true c6
    clear c6
    (first | rw [c6b0] | (simp only [i64_w, i32_w]; rw [c6b0]) | rw [c6b1] | skip)
    have H' := Aside0.mk H
    clear H
    go_wp2
    go_meet
    case rel => exact ⟨_, (true), (by first | rfl | (simp; done) | (simp [*]; done)), H', ⟨by first | omega | exact Nat.le_refl _⟩, ⟨by repeat (first | (with_reducible first | exact HB.out | apply below_alloc | apply pw_below_drewN | apply below_drew1) | exact HB.out)⟩⟩
   ·
    rw [if_neg c6] at H
    have c6b0 : decide (4000 < t430) = false := decide_eq_false c6
    clear c6
    (first | rw [c6b0] | (simp only [i64_w, i32_w]; rw [c6b0]) | rw [c6b1] | skip)
    have H' := Aside0.mk H
    clear H
    go_wp2
    go_meet
    case rel => exact ⟨_, (decide (t430 > (wrap64 ((l0.length : Int) - t431)))), (by first | rfl | (simp; done) | (simp [*]; done)), H', ⟨by first | omega | exact Nat.le_refl _⟩, ⟨by repeat (first | (with_reducible first | exact HB.out | apply below_alloc | apply pw_below_drewN | apply below_drew1) | exact HB.out)⟩⟩
  ·
   replace c5 := Bool.eq_false_iff.mpr c5
   subst c5
   have H1 : (impl_GetString.j0 k l0 a1 t430 t431 true) = some (r1, r2, r3) := by rw [if_neg (show ¬ (false = true) by decide)] at H; exact H
   clear H
   have H := H1
   clear H1
   have H' := Aside0.mk H
   clear H
   go_wp2
   go_meet
   case rel => exact ⟨_, (true), (by first | rfl | (simp; done) | (simp [*]; done)), H', ⟨by first | omega | exact Nat.le_refl _⟩, ⟨by repeat (first | (with_reducible first | exact HB.out | apply below_alloc | apply pw_below_drewN | apply below_drew1) | exact HB.out)⟩⟩
 case rest =>
  clear HC4
  try clear p2
  try clear c3
  try clear c5
  try clear c6
  try clear c6b0
  try clear c6b1
  try clear p6
  obtain ⟨kq, x32_3, rfl, HA, HJ3, HB⟩ := hcut
  cases kq with
  | zero => exact absurd HA.out (by simp [impl_GetString.j0])
  | succ kj3 =>
   have H := HA.out
   clear HA
   simp only [impl_GetString.j0] at H
   by_cases c7 : x32_3 = true
   ·
    subst c7
    have H1 : (some ((⟨#[]⟩ : ByteArray), 0, false)) = some (r1, r2, r3) := by rw [if_pos rfl] at H; exact H
    clear H
    have H := H1
    clear H1
    simp only [Option.some.injEq, Prod.mk.injEq] at H
    obtain ⟨rfl, rfl, rfl⟩ := H
    go_wp2
    go_ret3
    exact ⟨by first | rfl | (simp [errW_none, errW_some] <;> rfl) | (simp [*, errW_none, errW_some] <;> rfl), by repeat (first | (with_reducible first | exact HB.out | apply below_alloc | apply pw_below_drewN | apply below_drew1) | exact HB.out)⟩
   ·
    replace c7 := Bool.eq_false_iff.mpr c7
    subst c7
    have H1 : (if 0 ≤ t431 then (if t431 ≤ (wrap64 (t431 + t430)) then (if (wrap64 (t431 + t430)) ≤ (l0.length : Int) then ((some ((l0.take ((wrap64 (t431 + t430)) : Int).toNat).drop (t431 : Int).toNat : List Int)).bind fun y433 => (if 0 ≤ a1 then (if a1 < (l0.length : Int) then (if (rd l0 a1) < 128 then (some (strOfNums y433, wrap64 (t431 + t430), true)) else ((impl_UnHuff.f kj3 y433).bind fun bt438 => (if bt438.2 = true then (if (bt438.1.size : Int) > 4000 then (some ((⟨#[]⟩ : ByteArray), 0, false)) else (some (bt438.1, wrap64 (t431 + t430), true))) else (some ((⟨#[]⟩ : ByteArray), 0, false))))) else (none)) else (none))) else (none)) else (none)) else (none)) = some (r1, r2, r3) := by rw [if_neg (show ¬ (false = true) by decide)] at H; exact H
    clear H
    have H := H1
    clear H1
    by_cases c8 : 0 ≤ t431
    ·
     rw [if_pos c8] at H
     have c8b0 := eq_true c8
     have c8b1 : decide (0 ≤ t431) = true := decide_eq_true c8
     clear c8
     by_cases c9 : t431 ≤ (wrap64 (t431 + t430))
     ·
      rw [if_pos c9] at H
      have c9b0 := eq_true c9
      have c9b1 : decide (t431 ≤ (wrap64 (t431 + t430))) = true := decide_eq_true c9
      by_cases c10 : (wrap64 (t431 + t430)) ≤ (l0.length : Int)
      ·
       rw [if_pos c10] at H
       have c10b0 := eq_true c10
       have c10b1 : decide ((wrap64 (t431 + t430)) ≤ (l0.length : Int)) = true := decide_eq_true c10
       obtain ⟨y433, hy433⟩ : ∃ y_ : List Int, y_ = ((l0.take ((wrap64 (t431 + t430)) : Int).toNat).drop (t431 : Int).toNat) := ⟨_, rfl⟩
       replace H : (if 0 ≤ a1 then (if a1 < (l0.length : Int) then (if (rd l0 a1) < 128 then (some (strOfNums y433, wrap64 (t431 + t430), true)) else ((impl_UnHuff.f kj3 y433).bind fun bt438 => (if bt438.2 = true then (if (bt438.1.size : Int) > 4000 then (some ((⟨#[]⟩ : ByteArray), 0, false)) else (some (bt438.1, wrap64 (t431 + t430), true))) else (some ((⟨#[]⟩ : ByteArray), 0, false))))) else (none)) else (none)) = some (r1, r2, r3) := by first | (rw [hy433]; with_reducible exact H) | (have H2_ := (Option.bind_some _ _).symm.trans H; rw [hy433]; with_reducible exact H2_) | (have H2_ := (Option.bind_some _ _).symm.trans H; with_reducible exact H2_) | with_reducible exact H | (rw [hy433]; exact H) | exact H
       have Ny433 := Aside0.mk hy433
       clear hy433
       by_cases c11 : 0 ≤ a1
       ·
        rw [if_pos c11] at H
        have c11b0 : decide (0 ≤ a1) = true := decide_eq_true c11
        clear c11
        by_cases c12 : a1 < (l0.length : Int)
        ·
         rw [if_pos c12] at H
         have c12b0 : decide (a1 < (l0.length : Int)) = true := decide_eq_true c12
         clear c12
         by_cases c13 : (rd l0 a1) < 128
         ·
          rw [if_pos c13] at H
          have c13b0 : decide ((rd l0 a1) < 128) = true := decide_eq_true c13
          clear c13
          simp only [Option.some.injEq, Prod.mk.injEq] at H
          obtain ⟨rfl, rfl, rfl⟩ := H
          have q14 : ((wrap64 (t431 + t430)) : Int) ≤ ((l0.length : Int) : Int) := of_decide_eq_true (by first | (with_reducible assumption) | assumption)
          obtain ⟨i014, hi014, _, hsz14, _⟩ := info_parts info5
          have hroom14 : l0.length ≤ c0 := HC0.out
          have hC14 : Kd.C (Kd.int .u8) _ A0 l0.length l0 := HR0.out
          have ql14 : (t431 : Int) ≤ ((wrap64 (t431 + t430)) : Int) := of_decide_eq_true (by first | (with_reducible assumption) | assumption)
          have q014 : (0 : Int) ≤ (t431 : Int) := of_decide_eq_true (by first | (with_reducible assumption) | assumption)
          have hcut14 := cut_mid (P := Tryd.prog) 26 5 .i64 .i64 Tryd.underlying26 hi014 1 hsz14 A0 l0.length c0 t431 (wrap64 (t431 + t430)) q014 ql14 q14 hroom14
          have hr14 := Kd.C_mid (lo := (t431 : Int).toNat) (hi := ((wrap64 (t431 + t430)) : Int).toNat) (c := c0) hC14 (by omega) (by omega) hroom14
          obtain ⟨A14, hA14⟩ : ∃ A1, A1 = (if c0 = (t431 : Int).toNat then A0 else (A0 : Option Addr).map (·.add ((t431 : Int).toNat * 1))) := ⟨_, rfl⟩
          obtain ⟨c14, hc14⟩ : ∃ c1, c1 = c0 - (t431 : Int).toNat := ⟨_, rfl⟩
          have hy14 : y433.length = ((wrap64 (t431 + t430)) : Int).toNat - (t431 : Int).toNat := (by rw [Ny433.out, List.length_drop, List.length_take] <;> omega)
          rw [show ((l0).take ((wrap64 (t431 + t430)) : Int).toNat).drop (t431 : Int).toNat = y433 from Ny433.out.symm] at hr14
          replace hr14 : Kd.C (Kd.int .u8) _ A14 y433.length y433 := (by rw [hA14]; exact hr14)
          rw [← hy14, ← hA14, ← hc14] at hcut14
          have HR436 := Aside0.mk hr14
          have HC436 := Aside0.mk (show y433.length ≤ c14 from by rw [hy14, hc14]; exact Nat.sub_le_sub_right (Nat.le_trans (by omega) hroom14) _)
          clear hr14 hC14 hroom14 hi014 hsz14 hc14
          have KY14 := Aside0.mk hy14
          have KA14 := Aside0.mk hA14
          clear hy14 hA14
          replace q14 := eq_true q14
          have p437 : 0 ≤ (a1 : Int) := of_decide_eq_true (by first | (with_reducible assumption) | assumption)
          have q437 : a1 < (l0.length : Int) := of_decide_eq_true (by first | (with_reducible assumption) | assumption)
          obtain ⟨ad437, e437, hx437_0⟩ := Kd.at_int HR0.out a1 p437 q437
          cases e437
          replace hx437_0 := (HB.out.cell (World.block_lt_of_cell? w _ hx437_0)).trans hx437_0
          replace p437 := eq_true p437
          replace q437 := eq_true q437
          have hcv15 := Kd.C_string (P := Tryd.prog) (A := A14) (c := c14) Tryd.underlying26 Tryd.underlying5 Tryd.underlying9 (Kd.C_below HR436.out HB.out)
          go_wp2
          go_ret3
          exact ⟨by first | rfl | (simp [errW_none, errW_some] <;> rfl) | (simp [*, errW_none, errW_some] <;> rfl), by repeat (first | (with_reducible first | exact HB.out | apply below_alloc | apply pw_below_drewN | apply below_drew1) | exact HB.out)⟩
         ·
          rw [if_neg c13] at H
          have c13b0 : decide ((rd l0 a1) < 128) = false := decide_eq_false c13
          clear c13
          replace H := Option.bind_eq_some_iff.mp H
          obtain ⟨⟨t438, t439⟩, A160, H⟩ := H
          replace H : (if t439 = true then (if (t438.size : Int) > 4000 then (some ((⟨#[]⟩ : ByteArray), 0, false)) else (some (t438, wrap64 (t431 + t430), true))) else (some ((⟨#[]⟩ : ByteArray), 0, false))) = some (r1, r2, r3) := H
          have A16 := Aside0.mk A160
          clear A160
          by_cases c17 : t439 = true
          ·
           subst c17
           have H1 : (if (t438.size : Int) > 4000 then (some ((⟨#[]⟩ : ByteArray), 0, false)) else (some (t438, wrap64 (t431 + t430), true))) = some (r1, r2, r3) := by rw [if_pos rfl] at H; exact H
           clear H
           have H := H1
           clear H1
           by_cases c18 : (t438.size : Int) > 4000
           ·
            rw [if_pos c18] at H
            have c18b0 : decide (4000 < (t438.size : Int)) = true := decide_eq_true c18
            have c18b1 : decide (4000 < t438.size) = true := decide_eq_true (by omega)
            clear c18
            simp only [Option.some.injEq, Prod.mk.injEq] at H
            obtain ⟨rfl, rfl, rfl⟩ := H
            have q19 : ((wrap64 (t431 + t430)) : Int) ≤ ((l0.length : Int) : Int) := of_decide_eq_true (by first | (with_reducible assumption) | assumption)
            obtain ⟨i019, hi019, _, hsz19, _⟩ := info_parts info5
            have hroom19 : l0.length ≤ c0 := HC0.out
            have hC19 : Kd.C (Kd.int .u8) _ A0 l0.length l0 := HR0.out
            have ql19 : (t431 : Int) ≤ ((wrap64 (t431 + t430)) : Int) := of_decide_eq_true (by first | (with_reducible assumption) | assumption)
            have q019 : (0 : Int) ≤ (t431 : Int) := of_decide_eq_true (by first | (with_reducible assumption) | assumption)
            have hcut19 := cut_mid (P := Tryd.prog) 26 5 .i64 .i64 Tryd.underlying26 hi019 1 hsz19 A0 l0.length c0 t431 (wrap64 (t431 + t430)) q019 ql19 q19 hroom19
            have hr19 := Kd.C_mid (lo := (t431 : Int).toNat) (hi := ((wrap64 (t431 + t430)) : Int).toNat) (c := c0) hC19 (by omega) (by omega) hroom19
            obtain ⟨A19, hA19⟩ : ∃ A1, A1 = (if c0 = (t431 : Int).toNat then A0 else (A0 : Option Addr).map (·.add ((t431 : Int).toNat * 1))) := ⟨_, rfl⟩
            obtain ⟨c19, hc19⟩ : ∃ c1, c1 = c0 - (t431 : Int).toNat := ⟨_, rfl⟩
            have hy19 : y433.length = ((wrap64 (t431 + t430)) : Int).toNat - (t431 : Int).toNat := (by rw [Ny433.out, List.length_drop, List.length_take] <;> omega)
            rw [show ((l0).take ((wrap64 (t431 + t430)) : Int).toNat).drop (t431 : Int).toNat = y433 from Ny433.out.symm] at hr19
            replace hr19 : Kd.C (Kd.int .u8) _ A19 y433.length y433 := (by rw [hA19]; exact hr19)
            rw [← hy19, ← hA19, ← hc19] at hcut19
            have HR436 := Aside0.mk hr19
            have HC436 := Aside0.mk (show y433.length ≤ c19 from by rw [hy19, hc19]; exact Nat.sub_le_sub_right (Nat.le_trans (by omega) hroom19) _)
            clear hr19 hC19 hroom19 hi019 hsz19 hc19
            have KY19 := Aside0.mk hy19
            have KA19 := Aside0.mk hA19
            clear hy19 hA19
            replace q19 := eq_true q19
            have p437 : 0 ≤ (a1 : Int) := of_decide_eq_true (by first | (with_reducible assumption) | assumption)
            have q437 : a1 < (l0.length : Int) := of_decide_eq_true (by first | (with_reducible assumption) | assumption)
            obtain ⟨ad437, e437, hx437_0⟩ := Kd.at_int HR0.out a1 p437 q437
            cases e437
            replace hx437_0 := (HB.out.cell (World.block_lt_of_cell? w _ hx437_0)).trans hx437_0
            replace p437 := eq_true p437
            replace q437 := eq_true q437
            go_wp2_with (first | ((with_reducible refine gate_callee (f := 28) rfl ?_); refine goesL_ (some 51) rfl rfl Tryd.func28 (by kernel_rfl) rfl #[.slice A19 y433.length c19] rfl (by (try simp only [List.map_toArray, List.map_cons, List.map_nil]); first | done | rfl | (simp only [List.length_drop, List.length_take]; rfl)) ?_; (with_reducible refine (impl_UnHuff.calls kj3 _ _ y433 t438 true _ ?side1 ?side2 ?side3 A16.out).mono ?_); (case side1 => repeat (first | exact (Kd.C_below HR436.out HB.out) | (with_reducible refine Kd.C_alloc ?_ _) | (with_reducible refine Kd.C_drewN ?_ _) | (with_reducible refine Kd.C_drew ?_))); (case side2 => exact HC436.out); (case side3 => first | exact ht | (refine tb_below ht ?_; repeat (first | (with_reducible first | exact HB.out | apply below_alloc | apply pw_below_drewN | apply below_drew1) | exact HB.out))); rintro e w20 ⟨rfl, hb⟩; refine ⟨_, rfl, ?_⟩; have n0_ := Aside0.mk (below_step (by repeat (first | (with_reducible first | exact HB.out | apply below_alloc | apply pw_below_drewN | apply below_drew1) | exact HB.out)) hb); clear HB; have HB := n0_; clear n0_; (try clear hb); (try clear hb2); (try clear hk); (try clear hi)))
            go_ret3
            exact ⟨by first | rfl | (simp [errW_none, errW_some] <;> rfl) | (simp [*, errW_none, errW_some] <;> rfl), by repeat (first | (with_reducible first | exact HB.out | apply below_alloc | apply pw_below_drewN | apply below_drew1) | exact HB.out)⟩
           ·
            rw [if_neg c18] at H
            have c18b0 : decide (4000 < (t438.size : Int)) = false := decide_eq_false c18
            have c18b1 : decide (4000 < t438.size) = false := decide_eq_false (by omega)
            clear c18
            simp only [Option.some.injEq, Prod.mk.injEq] at H
            obtain ⟨rfl, rfl, rfl⟩ := H
            have q21 : ((wrap64 (t431 + t430)) : Int) ≤ ((l0.length : Int) : Int) := of_decide_eq_true (by first | (with_reducible assumption) | assumption)
            obtain ⟨i021, hi021, _, hsz21, _⟩ := info_parts info5
            have hroom21 : l0.length ≤ c0 := HC0.out
            have hC21 : Kd.C (Kd.int .u8) _ A0 l0.length l0 := HR0.out
            have ql21 : (t431 : Int) ≤ ((wrap64 (t431 + t430)) : Int) := of_decide_eq_true (by first | (with_reducible assumption) | assumption)
            have q021 : (0 : Int) ≤ (t431 : Int) := of_decide_eq_true (by first | (with_reducible assumption) | assumption)
            have hcut21 := cut_mid (P := Tryd.prog) 26 5 .i64 .i64 Tryd.underlying26 hi021 1 hsz21 A0 l0.length c0 t431 (wrap64 (t431 + t430)) q021 ql21 q21 hroom21
            have hr21 := Kd.C_mid (lo := (t431 : Int).toNat) (hi := ((wrap64 (t431 + t430)) : Int).toNat) (c := c0) hC21 (by omega) (by omega) hroom21
            obtain ⟨A21, hA21⟩ : ∃ A1, A1 = (if c0 = (t431 : Int).toNat then A0 else (A0 : Option Addr).map (·.add ((t431 : Int).toNat * 1))) := ⟨_, rfl⟩
            obtain ⟨c21, hc21⟩ : ∃ c1, c1 = c0 - (t431 : Int).toNat := ⟨_, rfl⟩
            have hy21 : y433.length = ((wrap64 (t431 + t430)) : Int).toNat - (t431 : Int).toNat := (by rw [Ny433.out, List.length_drop, List.length_take] <;> omega)
            rw [show ((l0).take ((wrap64 (t431 + t430)) : Int).toNat).drop (t431 : Int).toNat = y433 from Ny433.out.symm] at hr21
            replace hr21 : Kd.C (Kd.int .u8) _ A21 y433.length y433 := (by rw [hA21]; exact hr21)
            rw [← hy21, ← hA21, ← hc21] at hcut21
            have HR436 := Aside0.mk hr21
            have HC436 := Aside0.mk (show y433.length ≤ c21 from by rw [hy21, hc21]; exact Nat.sub_le_sub_right (Nat.le_trans (by omega) hroom21) _)
            clear hr21 hC21 hroom21 hi021 hsz21 hc21
            have KY21 := Aside0.mk hy21
            have KA21 := Aside0.mk hA21
            clear hy21 hA21
            replace q21 := eq_true q21
            have p437 : 0 ≤ (a1 : Int) := of_decide_eq_true (by first | (with_reducible assumption) | assumption)
            have q437 : a1 < (l0.length : Int) := of_decide_eq_true (by first | (with_reducible assumption) | assumption)
            obtain ⟨ad437, e437, hx437_0⟩ := Kd.at_int HR0.out a1 p437 q437
            cases e437
            replace hx437_0 := (HB.out.cell (World.block_lt_of_cell? w _ hx437_0)).trans hx437_0
            replace p437 := eq_true p437
            replace q437 := eq_true q437
            go_wp2_with (first | ((with_reducible refine gate_callee (f := 28) rfl ?_); refine goesL_ (some 51) rfl rfl Tryd.func28 (by kernel_rfl) rfl #[.slice A21 y433.length c21] rfl (by (try simp only [List.map_toArray, List.map_cons, List.map_nil]); first | done | rfl | (simp only [List.length_drop, List.length_take]; rfl)) ?_; (with_reducible refine (impl_UnHuff.calls kj3 _ _ y433 t438 true _ ?side1 ?side2 ?side3 A16.out).mono ?_); (case side1 => repeat (first | exact (Kd.C_below HR436.out HB.out) | (with_reducible refine Kd.C_alloc ?_ _) | (with_reducible refine Kd.C_drewN ?_ _) | (with_reducible refine Kd.C_drew ?_))); (case side2 => exact HC436.out); (case side3 => first | exact ht | (refine tb_below ht ?_; repeat (first | (with_reducible first | exact HB.out | apply below_alloc | apply pw_below_drewN | apply below_drew1) | exact HB.out))); rintro e w22 ⟨rfl, hb⟩; refine ⟨_, rfl, ?_⟩; have n0_ := Aside0.mk (below_step (by repeat (first | (with_reducible first | exact HB.out | apply below_alloc | apply pw_below_drewN | apply below_drew1) | exact HB.out)) hb); clear HB; have HB := n0_; clear n0_; (try clear hb); (try clear hb2); (try clear hk); (try clear hi)))
            go_ret3
            exact ⟨by first | rfl | (simp [errW_none, errW_some] <;> rfl) | (simp [*, errW_none, errW_some] <;> rfl), by repeat (first | (with_reducible first | exact HB.out | apply below_alloc | apply pw_below_drewN | apply below_drew1) | exact HB.out)⟩
          ·
           replace c17 := Bool.eq_false_iff.mpr c17
           subst c17
           have H1 : (some ((⟨#[]⟩ : ByteArray), 0, false)) = some (r1, r2, r3) := by rw [if_neg (show ¬ (false = true) by decide)] at H; exact H
           clear H
           have H := H1
           clear H1
           simp only [Option.some.injEq, Prod.mk.injEq] at H
           obtain ⟨rfl, rfl, rfl⟩ := H
           have q23 : ((wrap64 (t431 + t430)) : Int) ≤ ((l0.length : Int) : Int) := of_decide_eq_true (by first | (with_reducible assumption) | assumption)
           obtain ⟨i023, hi023, _, hsz23, _⟩ := info_parts info5
           have hroom23 : l0.length ≤ c0 := HC0.out
           have hC23 : Kd.C (Kd.int .u8) _ A0 l0.length l0 := HR0.out
           have ql23 : (t431 : Int) ≤ ((wrap64 (t431 + t430)) : Int) := of_decide_eq_true (by first | (with_reducible assumption) | assumption)
           have q023 : (0 : Int) ≤ (t431 : Int) := of_decide_eq_true (by first | (with_reducible assumption) | assumption)
           have hcut23 := cut_mid (P := Tryd.prog) 26 5 .i64 .i64 Tryd.underlying26 hi023 1 hsz23 A0 l0.length c0 t431 (wrap64 (t431 + t430)) q023 ql23 q23 hroom23
           have hr23 := Kd.C_mid (lo := (t431 : Int).toNat) (hi := ((wrap64 (t431 + t430)) : Int).toNat) (c := c0) hC23 (by omega) (by omega) hroom23
           obtain ⟨A23, hA23⟩ : ∃ A1, A1 = (if c0 = (t431 : Int).toNat then A0 else (A0 : Option Addr).map (·.add ((t431 : Int).toNat * 1))) := ⟨_, rfl⟩
           obtain ⟨c23, hc23⟩ : ∃ c1, c1 = c0 - (t431 : Int).toNat := ⟨_, rfl⟩
           have hy23 : y433.length = ((wrap64 (t431 + t430)) : Int).toNat - (t431 : Int).toNat := (by rw [Ny433.out, List.length_drop, List.length_take] <;> omega)
           rw [show ((l0).take ((wrap64 (t431 + t430)) : Int).toNat).drop (t431 : Int).toNat = y433 from Ny433.out.symm] at hr23
           replace hr23 : Kd.C (Kd.int .u8) _ A23 y433.length y433 := (by rw [hA23]; exact hr23)
           rw [← hy23, ← hA23, ← hc23] at hcut23
           have HR436 := Aside0.mk hr23
           have HC436 := Aside0.mk (show y433.length ≤ c23 from by rw [hy23, hc23]; exact Nat.sub_le_sub_right (Nat.le_trans (by omega) hroom23) _)
           clear hr23 hC23 hroom23 hi023 hsz23 hc23
           have KY23 := Aside0.mk hy23
           have KA23 := Aside0.mk hA23
           clear hy23 hA23
           replace q23 := eq_true q23
           have p437 : 0 ≤ (a1 : Int) := of_decide_eq_true (by first | (with_reducible assumption) | assumption)
           have q437 : a1 < (l0.length : Int) := of_decide_eq_true (by first | (with_reducible assumption) | assumption)
           obtain ⟨ad437, e437, hx437_0⟩ := Kd.at_int HR0.out a1 p437 q437
           cases e437
           replace hx437_0 := (HB.out.cell (World.block_lt_of_cell? w _ hx437_0)).trans hx437_0
           replace p437 := eq_true p437
           replace q437 := eq_true q437
           go_wp2_with (first | ((with_reducible refine gate_callee (f := 28) rfl ?_); refine goesL_ (some 51) rfl rfl Tryd.func28 (by kernel_rfl) rfl #[.slice A23 y433.length c23] rfl (by (try simp only [List.map_toArray, List.map_cons, List.map_nil]); first | done | rfl | (simp only [List.length_drop, List.length_take]; rfl)) ?_; (with_reducible refine (impl_UnHuff.calls kj3 _ _ y433 t438 false _ ?side1 ?side2 ?side3 A16.out).mono ?_); (case side1 => repeat (first | exact (Kd.C_below HR436.out HB.out) | (with_reducible refine Kd.C_alloc ?_ _) | (with_reducible refine Kd.C_drewN ?_ _) | (with_reducible refine Kd.C_drew ?_))); (case side2 => exact HC436.out); (case side3 => first | exact ht | (refine tb_below ht ?_; repeat (first | (with_reducible first | exact HB.out | apply below_alloc | apply pw_below_drewN | apply below_drew1) | exact HB.out))); rintro e w24 ⟨rfl, hb⟩; refine ⟨_, rfl, ?_⟩; have n0_ := Aside0.mk (below_step (by repeat (first | (with_reducible first | exact HB.out | apply below_alloc | apply pw_below_drewN | apply below_drew1) | exact HB.out)) hb); clear HB; have HB := n0_; clear n0_; (try clear hb); (try clear hb2); (try clear hk); (try clear hi)))
           go_ret3
           exact ⟨by first | rfl | (simp [errW_none, errW_some] <;> rfl) | (simp [*, errW_none, errW_some] <;> rfl), by repeat (first | (with_reducible first | exact HB.out | apply below_alloc | apply pw_below_drewN | apply below_drew1) | exact HB.out)⟩
        ·
         rw [if_neg c12] at H
         exact absurd H (by simp)
       ·
        rw [if_neg c11] at H
        exact absurd H (by simp)
      ·
       rw [if_neg c10] at H
       exact absurd H (by simp)
     ·
      rw [if_neg c9] at H
      exact absurd H (by simp)
    ·
     rw [if_neg c8] at H
     exact absurd H (by simp)

end Go.Proofs.YthflimnpiglgbaaDoor.A
