/- Written by a program of this session, out of the translation: functions as plain Lean functions, and that the machine's calls answer as they do. Condition: none beyond each theorem's own. -/
import Derived.Test.YthflimnpiglgbaaDoorAx0
import Derived.Test.YthflimnpiglgbaaDoorAx21
import Derived.Test.YthflimnpiglgbaaDoorAx39
namespace Go.Proofs.YthflimnpiglgbaaDoor.A
open Go.RowKit Go.Proofs.YthflimnpiglgbaaDoorW.PrintWords Go.Proofs.YthflimnpiglgbaaDoorW.PrintLast Go.Proofs.YthflimnpiglgbaaDoorW.PrintMore
attribute [local go_sem] max2_int min2_int max_two min_two max_three min_three max_four min_four   -- for this text's walks alone
set_option linter.unusedVariables false
set_option linter.unusedSimpArgs false

/-! ### spec_GetString: function 37 -/
def spec_GetString.j0 : Nat → List Int → Int → Int → Int → Bool → Option (ByteArray × Int × Bool)
 | 0, _, _, _, _, _ => none
 | k + 1, x0, x1, x7, x8, x32 => if x32 = true then (some ((⟨#[]⟩ : ByteArray), 0, false)) else (if 0 ≤ x1 then (if x1 < (x0.length : Int) then (if (rd x0 x1) < 128 then (if 0 ≤ x8 then (if x8 ≤ (wrap64 (x8 + x7)) then (if (wrap64 (x8 + x7)) ≤ (x0.length : Int) then (some (strOfNums ((x0.take ((wrap64 (x8 + x7)) : Int).toNat).drop (x8 : Int).toNat), wrap64 (x8 + x7), true)) else (none)) else (none)) else (none)) else (if 0 ≤ x8 then (if x8 ≤ (wrap64 (x8 + x7)) then (if (wrap64 (x8 + x7)) ≤ (x0.length : Int) then ((spec_UnHuff.f k ((x0.take ((wrap64 (x8 + x7)) : Int).toNat).drop (x8 : Int).toNat)).bind fun bt479 => (if bt479.2 = true then (if (bt479.1.size : Int) > 4000 then (some ((⟨#[]⟩ : ByteArray), 0, false)) else (some (bt479.1, wrap64 (x8 + x7), true))) else (some ((⟨#[]⟩ : ByteArray), 0, false)))) else (none)) else (none)) else (none))) else (none)) else (none))
def spec_GetString.f (k : Nat) (l0 : List Int) (a1 : Int) : Option (ByteArray × Int × Bool) := (spec_GetPrefix.f k l0 a1 7).bind fun bt467 => (if bt467.2.2 = true then (if bt467.1 > 4000 then (spec_GetString.j0 k l0 a1 bt467.1 bt467.2.1 true) else (spec_GetString.j0 k l0 a1 bt467.1 bt467.2.1 (decide (bt467.1 > (wrap64 ((l0.length : Int) - bt467.2.1)))))) else (spec_GetString.j0 k l0 a1 bt467.1 bt467.2.1 true))
theorem spec_GetString.mono_l : ∀ k, (∀ y0 y1 y2 y3 y4, LeO (spec_GetString.j0 k y0 y1 y2 y3 y4) (spec_GetString.j0 (k + 1) y0 y1 y2 y3 y4))
 | 0 => fun _ _ _ _ _ r h => by simp [spec_GetString.j0] at h
 | k + 1 => by
  have ih0 := spec_GetString.mono_l k
  ·
   intro y0 y1 y2 y3 y4
   unfold spec_GetString.j0
   repeat' first
   | (with_reducible exact ih0 _ _ _ _ _)
   | (with_reducible exact spec_GetPrefix.mono _ _ _ _)
   | (with_reducible exact spec_UnHuff.mono _ _)
   | (with_reducible exact LeO.refl _)
   | (with_reducible exact LeO.none _)
   | (with_reducible refine LeO.ite ?_ ?_)
   | (with_reducible refine LeO.bind ?_ (fun _ => ?_))
   | exact ih0 _ _ _ _ _
   | exact spec_GetPrefix.mono _ _ _ _
   | exact spec_UnHuff.mono _ _
   | exact LeO.none _
   | refine LeO.ite ?_ ?_
   | refine LeO.bind ?_ (fun _ => ?_)
theorem spec_GetString.mono : ∀ a0 a1 k, LeO (spec_GetString.f k a0 a1) (spec_GetString.f (k + 1) a0 a1) := by
 intro a0 a1 k
 have ih0 := spec_GetString.mono_l k
 unfold spec_GetString.f
 repeat' first
   | (with_reducible exact ih0 _ _ _ _ _)
   | (with_reducible exact spec_GetPrefix.mono _ _ _ _)
   | (with_reducible exact spec_UnHuff.mono _ _)
   | (with_reducible exact LeO.refl _)
   | (with_reducible exact LeO.none _)
   | (with_reducible refine LeO.ite ?_ ?_)
   | (with_reducible refine LeO.bind ?_ (fun _ => ?_))
   | exact ih0 _ _ _ _ _
   | exact spec_GetPrefix.mono _ _ _ _
   | exact spec_UnHuff.mono _ _
   | exact LeO.none _
   | refine LeO.ite ?_ ?_
   | refine LeO.bind ?_ (fun _ => ?_)
set_option maxHeartbeats 8000000 in
set_option maxRecDepth 100000 in
theorem spec_GetString.calls (k : Nat) (A0 : Option Addr) (c0 : Nat) (l0 : List Int) (a1 : Int) (r1 : ByteArray) (r2 : Int) (r3 : Bool) (w : World) (hr0 : Kd.C (Kd.int .u8) w A0 l0.length l0) (hc0 : l0.length ≤ c0) (h : spec_GetString.f k l0 a1 = some (r1, r2, r3)) :
  Calls Tryd.prog 37 #[.slice A0 l0.length c0, .int .i64 a1] w fun e w' => e = .returned (.tuple #[.string r1, .int .i64 r2, .bool r3]) ∧ Below w.heap.size w w' := by
 have HR0 := Aside0.mk hr0
 have HC0 := Aside0.mk hc0
 clear hr0 hc0
 have HB := Aside0.mk (Below.refl w.heap.size w)
 have H : ((spec_GetPrefix.f k l0 a1 7).bind fun bt467 => (if bt467.2.2 = true then (if bt467.1 > 4000 then (spec_GetString.j0 k l0 a1 bt467.1 bt467.2.1 true) else (spec_GetString.j0 k l0 a1 bt467.1 bt467.2.1 (decide (bt467.1 > (wrap64 ((l0.length : Int) - bt467.2.1)))))) else (spec_GetString.j0 k l0 a1 bt467.1 bt467.2.1 true))) = some (r1, r2, r3) := h
 clear h
 replace H := Option.bind_eq_some_iff.mp H
 obtain ⟨⟨t467, t468, t469⟩, A30, H⟩ := H
 replace H : (if t469 = true then (if t467 > 4000 then (spec_GetString.j0 k l0 a1 t467 t468 true) else (spec_GetString.j0 k l0 a1 t467 t468 (decide (t467 > (wrap64 ((l0.length : Int) - t468)))))) else (spec_GetString.j0 k l0 a1 t467 t468 true)) = some (r1, r2, r3) := H
 have A3 := Aside0.mk A30
 clear A30
 have HC4 := Aside0.mk H
 clear H
 go_enter Tryd.func37, Tryd.ntmps37
 go_upto_region 2 with (first | ((with_reducible refine gate_callee (f := 56) rfl ?_); refine goesL_ (some 15) rfl rfl Tryd.func56 (by kernel_rfl) rfl #[.slice A0 l0.length c0, .int .i64 a1, .int .i64 7] rfl (by (try simp only [List.map_toArray, List.map_cons, List.map_nil]); first | done | rfl | (simp only [List.length_drop, List.length_take]; rfl)) ?_; (with_reducible refine (spec_GetPrefix.calls k _ _ l0 a1 7 t467 t468 t469 _ ?side1 ?side2 A3.out).mono ?_); (case side1 => repeat (first | exact HR0.out | (with_reducible refine Kd.C_alloc ?_ _) | (with_reducible refine Kd.C_drewN ?_ _) | (with_reducible refine Kd.C_drew ?_))); (case side2 => exact HC0.out); rintro e w' ⟨rfl, ⟨nd, rfl⟩⟩; refine ⟨_, rfl, ?_⟩))
 (try simp only [Act.put, List.setIfInBounds_toArray, List.set_cons_zero, List.set_cons_succ])
 go_cut [32] (fun v32 wc => ∃ (kq : Nat) (x32_3 : Bool), v32 = .bool x32_3 ∧ Aside0 (spec_GetString.j0 kq l0 a1 t467 t468 x32_3 = some (r1, r2, r3)) ∧ Aside0 (kq ≤ k) ∧ Aside0 (Below w.heap.size w wc))
 case first =>
  have H := HC4.out
  clear HC4
  by_cases c5 : t469 = true
  ·
   subst c5
   have H1 : (if t467 > 4000 then (spec_GetString.j0 k l0 a1 t467 t468 true) else (spec_GetString.j0 k l0 a1 t467 t468 (decide (t467 > (wrap64 ((l0.length : Int) - t468)))))) = some (r1, r2, r3) := by rw [if_pos rfl] at H; exact H
   clear H
   have H := H1
   clear H1
   by_cases c6 : t467 > 4000
   ·
    rw [if_pos c6] at H
    have c6b0 : decide (4000 < t467) = true := decide_eq_true c6
    clear c6
    (first | rw [c6b0] | (simp only [i64_w, i32_w]; rw [c6b0]) | rw [c6b1] | skip)
    have H' := Aside0.mk H
    clear H
    go_wp2
    go_meet
    case rel => exact ⟨_, (true), (by first | rfl | (simp; done) | (simp [*]; done)), H', ⟨by first | omega | exact Nat.le_refl _⟩, ⟨by repeat (first | (with_reducible first | exact HB.out | apply below_alloc | apply pw_below_drewN | apply below_drew1) | exact HB.out)⟩⟩
   ·
    rw [if_neg c6] at H
    have c6b0 : decide (4000 < t467) = false := decide_eq_false c6
    clear c6
    (first | rw [c6b0] | (simp only [i64_w, i32_w]; rw [c6b0]) | rw [c6b1] | skip)
    have H' := Aside0.mk H
    clear H
    go_wp2
    go_meet
    case rel => exact ⟨_, (decide (t467 > (wrap64 ((l0.length : Int) - t468)))), (by first | rfl | (simp; done) | (simp [*]; done)), H', ⟨by first | omega | exact Nat.le_refl _⟩, ⟨by repeat (first | (with_reducible first | exact HB.out | apply below_alloc | apply pw_below_drewN | apply below_drew1) | exact HB.out)⟩⟩
  ·
   replace c5 := Bool.eq_false_iff.mpr c5
   subst c5
   have H1 : (spec_GetString.j0 k l0 a1 t467 t468 true) = some (r1, r2, r3) := by rw [if_neg (show ¬ (false = true) by decide)] at H; exact H
   clear H
   have H := H1
   clear H1
   have H' := Aside0.mk H
   clear H
   go_wp2
   go_meet
   case rel => exact ⟨_, (true), (by first | rfl | (simp; done) | (simp [*]; done)), H', ⟨by first | omega | exact Nat.le_refl _⟩, ⟨by repeat (first | (with_reducible first | exact HB.out | apply below_alloc | apply pw_below_drewN | apply below_drew1) | exact HB.out)⟩⟩
 case rest =>
  clear HC4
  try clear p2
  try clear c3
  try clear c5
  try clear c6
  try clear c6b0
  try clear c6b1
  try clear p6
  obtain ⟨kq, x32_3, rfl, HA, HJ3, HB⟩ := hcut
  cases kq with
  | zero => exact absurd HA.out (by simp [spec_GetString.j0])
  | succ kj3 =>
   have H := HA.out
   clear HA
   simp only [spec_GetString.j0] at H
   by_cases c7 : x32_3 = true
   ·
    subst c7
    have H1 : (some ((⟨#[]⟩ : ByteArray), 0, false)) = some (r1, r2, r3) := by rw [if_pos rfl] at H; exact H
    clear H
    have H := H1
    clear H1
    simp only [Option.some.injEq, Prod.mk.injEq] at H
    obtain ⟨rfl, rfl, rfl⟩ := H
    go_wp2
    go_ret3
    exact ⟨by first | rfl | (simp [errW_none, errW_some] <;> rfl) | (simp [*, errW_none, errW_some] <;> rfl), by repeat (first | (with_reducible first | exact HB.out | apply below_alloc | apply pw_below_drewN | apply below_drew1) | exact HB.out)⟩
   ·
    replace c7 := Bool.eq_false_iff.mpr c7
    subst c7
    have H1 : (if 0 ≤ a1 then (if a1 < (l0.length : Int) then (if (rd l0 a1) < 128 then (if 0 ≤ t468 then (if t468 ≤ (wrap64 (t468 + t467)) then (if (wrap64 (t468 + t467)) ≤ (l0.length : Int) then (some (strOfNums ((l0.take ((wrap64 (t468 + t467)) : Int).toNat).drop (t468 : Int).toNat), wrap64 (t468 + t467), true)) else (none)) else (none)) else (none)) else (if 0 ≤ t468 then (if t468 ≤ (wrap64 (t468 + t467)) then (if (wrap64 (t468 + t467)) ≤ (l0.length : Int) then ((spec_UnHuff.f kj3 ((l0.take ((wrap64 (t468 + t467)) : Int).toNat).drop (t468 : Int).toNat)).bind fun bt479 => (if bt479.2 = true then (if (bt479.1.size : Int) > 4000 then (some ((⟨#[]⟩ : ByteArray), 0, false)) else (some (bt479.1, wrap64 (t468 + t467), true))) else (some ((⟨#[]⟩ : ByteArray), 0, false)))) else (none)) else (none)) else (none))) else (none)) else (none)) = some (r1, r2, r3) := by rw [if_neg (show ¬ (false = true) by decide)] at H; exact H
    clear H
    have H := H1
    clear H1
    by_cases c8 : 0 ≤ a1
    ·
     rw [if_pos c8] at H
     have c8b0 : decide (0 ≤ a1) = true := decide_eq_true c8
     clear c8
     by_cases c9 : a1 < (l0.length : Int)
     ·
      rw [if_pos c9] at H
      have c9b0 : decide (a1 < (l0.length : Int)) = true := decide_eq_true c9
      clear c9
      by_cases c10 : (rd l0 a1) < 128
      ·
       rw [if_pos c10] at H
       have c10b0 : decide ((rd l0 a1) < 128) = true := decide_eq_true c10
       clear c10
       by_cases c11 : 0 ≤ t468
       ·
        rw [if_pos c11] at H
        have c11b0 := eq_true c11
        have c11b1 : decide (0 ≤ t468) = true := decide_eq_true c11
        clear c11
        by_cases c12 : t468 ≤ (wrap64 (t468 + t467))
        ·
         rw [if_pos c12] at H
         have c12b0 := eq_true c12
         have c12b1 : decide (t468 ≤ (wrap64 (t468 + t467))) = true := decide_eq_true c12
         by_cases c13 : (wrap64 (t468 + t467)) ≤ (l0.length : Int)
         ·
          rw [if_pos c13] at H
          have c13b0 := eq_true c13
          have c13b1 : decide ((wrap64 (t468 + t467)) ≤ (l0.length : Int)) = true := decide_eq_true c13
          obtain ⟨y471, hy471⟩ : ∃ y_ : List Int, y_ = ((l0.take ((wrap64 (t468 + t467)) : Int).toNat).drop (t468 : Int).toNat) := ⟨_, rfl⟩
          replace H : (some (strOfNums y471, wrap64 (t468 + t467), true)) = some (r1, r2, r3) := by first | (rw [hy471]; with_reducible exact H) | (have H2_ := (Option.bind_some _ _).symm.trans H; rw [hy471]; with_reducible exact H2_) | (have H2_ := (Option.bind_some _ _).symm.trans H; with_reducible exact H2_) | with_reducible exact H | (rw [hy471]; exact H) | exact H
          have Ny471 := Aside0.mk hy471
          clear hy471
          simp only [Option.some.injEq, Prod.mk.injEq] at H
          obtain ⟨rfl, rfl, rfl⟩ := H
          have p470 : 0 ≤ (a1 : Int) := of_decide_eq_true (by first | (with_reducible assumption) | assumption)
          have q470 : a1 < (l0.length : Int) := of_decide_eq_true (by first | (with_reducible assumption) | assumption)
          obtain ⟨ad470, e470, hx470_0⟩ := Kd.at_int HR0.out a1 p470 q470
          cases e470
          replace hx470_0 := (HB.out.cell (World.block_lt_of_cell? w _ hx470_0)).trans hx470_0
          replace p470 := eq_true p470
          replace q470 := eq_true q470
          have q14 : ((wrap64 (t468 + t467)) : Int) ≤ ((l0.length : Int) : Int) := of_decide_eq_true (by first | (with_reducible assumption) | assumption)
          obtain ⟨i014, hi014, _, hsz14, _⟩ := info_parts info5
          have hroom14 : l0.length ≤ c0 := HC0.out
          have hC14 : Kd.C (Kd.int .u8) _ (some ad470) l0.length l0 := HR0.out
          have ql14 : (t468 : Int) ≤ ((wrap64 (t468 + t467)) : Int) := of_decide_eq_true (by first | (with_reducible assumption) | assumption)
          have q014 : (0 : Int) ≤ (t468 : Int) := of_decide_eq_true (by first | (with_reducible assumption) | assumption)
          have hcut14 := cut_mid (P := Tryd.prog) 26 5 .i64 .i64 Tryd.underlying26 hi014 1 hsz14 (some ad470) l0.length c0 t468 (wrap64 (t468 + t467)) q014 ql14 q14 hroom14
          have hr14 := Kd.C_mid (lo := (t468 : Int).toNat) (hi := ((wrap64 (t468 + t467)) : Int).toNat) (c := c0) hC14 (by omega) (by omega) hroom14
          obtain ⟨A14, hA14⟩ : ∃ A1, A1 = (if c0 = (t468 : Int).toNat then (some ad470) else ((some ad470) : Option Addr).map (·.add ((t468 : Int).toNat * 1))) := ⟨_, rfl⟩
          obtain ⟨c14, hc14⟩ : ∃ c1, c1 = c0 - (t468 : Int).toNat := ⟨_, rfl⟩
          have hy14 : y471.length = ((wrap64 (t468 + t467)) : Int).toNat - (t468 : Int).toNat := (by rw [Ny471.out, List.length_drop, List.length_take] <;> omega)
          rw [show ((l0).take ((wrap64 (t468 + t467)) : Int).toNat).drop (t468 : Int).toNat = y471 from Ny471.out.symm] at hr14
          replace hr14 : Kd.C (Kd.int .u8) _ A14 y471.length y471 := (by rw [hA14]; exact hr14)
          rw [← hy14, ← hA14, ← hc14] at hcut14
          have HR474 := Aside0.mk hr14
          have HC474 := Aside0.mk (show y471.length ≤ c14 from by rw [hy14, hc14]; exact Nat.sub_le_sub_right (Nat.le_trans (by omega) hroom14) _)
          clear hr14 hC14 hroom14 hi014 hsz14 hc14
          have KY14 := Aside0.mk hy14
          have KA14 := Aside0.mk hA14
          clear hy14 hA14
          replace q14 := eq_true q14
          have hcv15 := Kd.C_string (P := Tryd.prog) (A := A14) (c := c14) Tryd.underlying26 Tryd.underlying5 Tryd.underlying9 (Kd.C_below HR474.out HB.out)
          go_wp2
          go_ret3
          exact ⟨by first | rfl | (simp [errW_none, errW_some] <;> rfl) | (simp [*, errW_none, errW_some] <;> rfl), by repeat (first | (with_reducible first | exact HB.out | apply below_alloc | apply pw_below_drewN | apply below_drew1) | exact HB.out)⟩
         ·
          rw [if_neg c13] at H
          exact absurd H (by simp)
        ·
         rw [if_neg c12] at H
         exact absurd H (by simp)
       ·
        rw [if_neg c11] at H
        exact absurd H (by simp)
      ·
       rw [if_neg c10] at H
       have c10b0 : decide ((rd l0 a1) < 128) = false := decide_eq_false c10
       clear c10
       by_cases c16 : 0 ≤ t468
       ·
        rw [if_pos c16] at H
        have c16b0 := eq_true c16
        have c16b1 : decide (0 ≤ t468) = true := decide_eq_true c16
        clear c16
        by_cases c17 : t468 ≤ (wrap64 (t468 + t467))
        ·
         rw [if_pos c17] at H
         have c17b0 := eq_true c17
         have c17b1 : decide (t468 ≤ (wrap64 (t468 + t467))) = true := decide_eq_true c17
         by_cases c18 : (wrap64 (t468 + t467)) ≤ (l0.length : Int)
         ·
          rw [if_pos c18] at H
          have c18b0 := eq_true c18
          have c18b1 : decide ((wrap64 (t468 + t467)) ≤ (l0.length : Int)) = true := decide_eq_true c18
          obtain ⟨y475, hy475⟩ : ∃ y_ : List Int, y_ = ((l0.take ((wrap64 (t468 + t467)) : Int).toNat).drop (t468 : Int).toNat) := ⟨_, rfl⟩
          replace H : ((spec_UnHuff.f kj3 y475).bind fun bt479 => (if bt479.2 = true then (if (bt479.1.size : Int) > 4000 then (some ((⟨#[]⟩ : ByteArray), 0, false)) else (some (bt479.1, wrap64 (t468 + t467), true))) else (some ((⟨#[]⟩ : ByteArray), 0, false)))) = some (r1, r2, r3) := by first | (rw [hy475]; with_reducible exact H) | (have H2_ := (Option.bind_some _ _).symm.trans H; rw [hy475]; with_reducible exact H2_) | (have H2_ := (Option.bind_some _ _).symm.trans H; with_reducible exact H2_) | with_reducible exact H | (rw [hy475]; exact H) | exact H
          have Ny475 := Aside0.mk hy475
          clear hy475
          replace H := Option.bind_eq_some_iff.mp H
          obtain ⟨⟨t479, t480⟩, A190, H⟩ := H
          replace H : (if t480 = true then (if (t479.size : Int) > 4000 then (some ((⟨#[]⟩ : ByteArray), 0, false)) else (some (t479, wrap64 (t468 + t467), true))) else (some ((⟨#[]⟩ : ByteArray), 0, false))) = some (r1, r2, r3) := H
          have A19 := Aside0.mk A190
          clear A190
          by_cases c20 : t480 = true
          ·
           subst c20
           have H1 : (if (t479.size : Int) > 4000 then (some ((⟨#[]⟩ : ByteArray), 0, false)) else (some (t479, wrap64 (t468 + t467), true))) = some (r1, r2, r3) := by rw [if_pos rfl] at H; exact H
           clear H
           have H := H1
           clear H1
           by_cases c21 : (t479.size : Int) > 4000
           ·
            rw [if_pos c21] at H
            have c21b0 : decide (4000 < (t479.size : Int)) = true := decide_eq_true c21
            have c21b1 : decide (4000 < t479.size) = true := decide_eq_true (by omega)
            clear c21
            simp only [Option.some.injEq, Prod.mk.injEq] at H
            obtain ⟨rfl, rfl, rfl⟩ := H
            have p470 : 0 ≤ (a1 : Int) := of_decide_eq_true (by first | (with_reducible assumption) | assumption)
            have q470 : a1 < (l0.length : Int) := of_decide_eq_true (by first | (with_reducible assumption) | assumption)
            obtain ⟨ad470, e470, hx470_0⟩ := Kd.at_int HR0.out a1 p470 q470
            cases e470
            replace hx470_0 := (HB.out.cell (World.block_lt_of_cell? w _ hx470_0)).trans hx470_0
            replace p470 := eq_true p470
            replace q470 := eq_true q470
            have q22 : ((wrap64 (t468 + t467)) : Int) ≤ ((l0.length : Int) : Int) := of_decide_eq_true (by first | (with_reducible assumption) | assumption)
            obtain ⟨i022, hi022, _, hsz22, _⟩ := info_parts info5
            have hroom22 : l0.length ≤ c0 := HC0.out
            have hC22 : Kd.C (Kd.int .u8) _ (some ad470) l0.length l0 := HR0.out
            have ql22 : (t468 : Int) ≤ ((wrap64 (t468 + t467)) : Int) := of_decide_eq_true (by first | (with_reducible assumption) | assumption)
            have q022 : (0 : Int) ≤ (t468 : Int) := of_decide_eq_true (by first | (with_reducible assumption) | assumption)
            have hcut22 := cut_mid (P := Tryd.prog) 26 5 .i64 .i64 Tryd.underlying26 hi022 1 hsz22 (some ad470) l0.length c0 t468 (wrap64 (t468 + t467)) q022 ql22 q22 hroom22
            have hr22 := Kd.C_mid (lo := (t468 : Int).toNat) (hi := ((wrap64 (t468 + t467)) : Int).toNat) (c := c0) hC22 (by omega) (by omega) hroom22
            obtain ⟨A22, hA22⟩ : ∃ A1, A1 = (if c0 = (t468 : Int).toNat then (some ad470) else ((some ad470) : Option Addr).map (·.add ((t468 : Int).toNat * 1))) := ⟨_, rfl⟩
            obtain ⟨c22, hc22⟩ : ∃ c1, c1 = c0 - (t468 : Int).toNat := ⟨_, rfl⟩
            have hy22 : y475.length = ((wrap64 (t468 + t467)) : Int).toNat - (t468 : Int).toNat := (by rw [Ny475.out, List.length_drop, List.length_take] <;> omega)
            rw [show ((l0).take ((wrap64 (t468 + t467)) : Int).toNat).drop (t468 : Int).toNat = y475 from Ny475.out.symm] at hr22
            replace hr22 : Kd.C (Kd.int .u8) _ A22 y475.length y475 := (by rw [hA22]; exact hr22)
            rw [← hy22, ← hA22, ← hc22] at hcut22
            have HR478 := Aside0.mk hr22
            have HC478 := Aside0.mk (show y475.length ≤ c22 from by rw [hy22, hc22]; exact Nat.sub_le_sub_right (Nat.le_trans (by omega) hroom22) _)
            clear hr22 hC22 hroom22 hi022 hsz22 hc22
            have KY22 := Aside0.mk hy22
            have KA22 := Aside0.mk hA22
            clear hy22 hA22
            replace q22 := eq_true q22
            go_wp2_with (first | ((with_reducible refine gate_callee (f := 29) rfl ?_); refine goesL_ (some 55) rfl rfl Tryd.func29 (by kernel_rfl) rfl #[.slice A22 y475.length c22] rfl (by (try simp only [List.map_toArray, List.map_cons, List.map_nil]); first | done | rfl | (simp only [List.length_drop, List.length_take]; rfl)) ?_; (with_reducible refine (spec_UnHuff.calls kj3 _ _ y475 t479 true _ ?side1 ?side2 A19.out).mono ?_); (case side1 => repeat (first | exact (Kd.C_below HR478.out HB.out) | (with_reducible refine Kd.C_alloc ?_ _) | (with_reducible refine Kd.C_drewN ?_ _) | (with_reducible refine Kd.C_drew ?_))); (case side2 => exact HC478.out); rintro e w23 ⟨rfl, hb⟩; refine ⟨_, rfl, ?_⟩; have n0_ := Aside0.mk (below_step (by repeat (first | (with_reducible first | exact HB.out | apply below_alloc | apply pw_below_drewN | apply below_drew1) | exact HB.out)) hb); clear HB; have HB := n0_; clear n0_; (try clear hb); (try clear hb2); (try clear hk); (try clear hi)))
            go_ret3
            exact ⟨by first | rfl | (simp [errW_none, errW_some] <;> rfl) | (simp [*, errW_none, errW_some] <;> rfl), by repeat (first | (with_reducible first | exact HB.out | apply below_alloc | apply pw_below_drewN | apply below_drew1) | exact HB.out)⟩
           ·
            rw [if_neg c21] at H
            have c21b0 : decide (4000 < (t479.size : Int)) = false := decide_eq_false c21
            have c21b1 : decide (4000 < t479.size) = false := decide_eq_false (by omega)
            clear c21
            simp only [Option.some.injEq, Prod.mk.injEq] at H
            obtain ⟨rfl, rfl, rfl⟩ := H
            have p470 : 0 ≤ (a1 : Int) := of_decide_eq_true (by first | (with_reducible assumption) | assumption)
            have q470 : a1 < (l0.length : Int) := of_decide_eq_true (by first | (with_reducible assumption) | assumption)
            obtain ⟨ad470, e470, hx470_0⟩ := Kd.at_int HR0.out a1 p470 q470
            cases e470
            replace hx470_0 := (HB.out.cell (World.block_lt_of_cell? w _ hx470_0)).trans hx470_0
            replace p470 := eq_true p470
            replace q470 := eq_true q470
            have q24 : ((wrap64 (t468 + t467)) : Int) ≤ ((l0.length : Int) : Int) := of_decide_eq_true (by first | (with_reducible assumption) | assumption)
            obtain ⟨i024, hi024, _, hsz24, _⟩ := info_parts info5
            have hroom24 : l0.length ≤ c0 := HC0.out
            have hC24 : Kd.C (Kd.int .u8) _ (some ad470) l0.length l0 := HR0.out
            have ql24 : (t468 : Int) ≤ ((wrap64 (t468 + t467)) : Int) := of_decide_eq_true (by first | (with_reducible assumption) | assumption)
            have q024 : (0 : Int) ≤ (t468 : Int) := of_decide_eq_true (by first | (with_reducible assumption) | assumption)
            have hcut24 := cut_mid (P := Tryd.prog) 26 5 .i64 .i64 Tryd.underlying26 hi024 1 hsz24 (some ad470) l0.length c0 t468 (wrap64 (t468 + t467)) q024 ql24 q24 hroom24
            have hr24 := Kd.C_mid (lo := (t468 : Int).toNat) (hi := ((wrap64 (t468 + t467)) : Int).toNat) (c := c0) hC24 (by omega) (by omega) hroom24
            obtain ⟨A24, hA24⟩ : ∃ A1, A1 = (if c0 = (t468 : Int).toNat then (some ad470) else ((some ad470) : Option Addr).map (·.add ((t468 : Int).toNat * 1))) := ⟨_, rfl⟩
            obtain ⟨c24, hc24⟩ : ∃ c1, c1 = c0 - (t468 : Int).toNat := ⟨_, rfl⟩
            have hy24 : y475.length = ((wrap64 (t468 + t467)) : Int).toNat - (t468 : Int).toNat := (by rw [Ny475.out, List.length_drop, List.length_take] <;> omega)
            rw [show ((l0).take ((wrap64 (t468 + t467)) : Int).toNat).drop (t468 : Int).toNat = y475 from Ny475.out.symm] at hr24
            replace hr24 : Kd.C (Kd.int .u8) _ A24 y475.length y475 := (by rw [hA24]; exact hr24)
            rw [← hy24, ← hA24, ← hc24] at hcut24
            have HR478 := Aside0.mk hr24
            have HC478 := Aside0.mk (show y475.length ≤ c24 from by rw [hy24, hc24]; exact Nat.sub_le_sub_right (Nat.le_trans (by omega) hroom24) _)
            clear hr24 hC24 hroom24 hi024 hsz24 hc24
            have KY24 := Aside0.mk hy24
            have KA24 := Aside0.mk hA24
            clear hy24 hA24
            replace q24 := eq_true q24
            go_wp2_with (first | ((with_reducible refine gate_callee (f := 29) rfl ?_); refine goesL_ (some 55) rfl rfl Tryd.func29 (by kernel_rfl) rfl #[.slice A24 y475.length c24] rfl (by (try simp only [List.map_toArray, List.map_cons, List.map_nil]); first | done | rfl | (simp only [List.length_drop, List.length_take]; rfl)) ?_; (with_reducible refine (spec_UnHuff.calls kj3 _ _ y475 t479 true _ ?side1 ?side2 A19.out).mono ?_); (case side1 => repeat (first | exact (Kd.C_below HR478.out HB.out) | (with_reducible refine Kd.C_alloc ?_ _) | (with_reducible refine Kd.C_drewN ?_ _) | (with_reducible refine Kd.C_drew ?_))); (case side2 => exact HC478.out); rintro e w25 ⟨rfl, hb⟩; refine ⟨_, rfl, ?_⟩; have n0_ := Aside0.mk (below_step (by repeat (first | (with_reducible first | exact HB.out | apply below_alloc | apply pw_below_drewN | apply below_drew1) | exact HB.out)) hb); clear HB; have HB := n0_; clear n0_; (try clear hb); (try clear hb2); (try clear hk); (try clear hi)))
            go_ret3
            exact ⟨by first | rfl | (simp [errW_none, errW_some] <;> rfl) | (simp [*, errW_none, errW_some] <;> rfl), by repeat (first | (with_reducible first | exact HB.out | apply below_alloc | apply pw_below_drewN | apply below_drew1) | exact HB.out)⟩
          ·
           replace c20 := Bool.eq_false_iff.mpr c20
           subst c20
           have H1 : (some ((⟨#[]⟩ : ByteArray), 0, false)) = some (r1, r2, r3) := by rw [if_neg (show ¬ (false = true) by decide)] at H; exact H
           clear H
           have H := H1
           clear H1
           simp only [Option.some.injEq, Prod.mk.injEq] at H
           obtain ⟨rfl, rfl, rfl⟩ := H
           have p470 : 0 ≤ (a1 : Int) := of_decide_eq_true (by first | (with_reducible assumption) | assumption)
           have q470 : a1 < (l0.length : Int) := of_decide_eq_true (by first | (with_reducible assumption) | assumption)
           obtain ⟨ad470, e470, hx470_0⟩ := Kd.at_int HR0.out a1 p470 q470
           cases e470
           replace hx470_0 := (HB.out.cell (World.block_lt_of_cell? w _ hx470_0)).trans hx470_0
           replace p470 := eq_true p470
           replace q470 := eq_true q470
           have q26 : ((wrap64 (t468 + t467)) : Int) ≤ ((l0.length : Int) : Int) := of_decide_eq_true (by first | (with_reducible assumption) | assumption)
           obtain ⟨i026, hi026, _, hsz26, _⟩ := info_parts info5
           have hroom26 : l0.length ≤ c0 := HC0.out
           have hC26 : Kd.C (Kd.int .u8) _ (some ad470) l0.length l0 := HR0.out
           have ql26 : (t468 : Int) ≤ ((wrap64 (t468 + t467)) : Int) := of_decide_eq_true (by first | (with_reducible assumption) | assumption)
           have q026 : (0 : Int) ≤ (t468 : Int) := of_decide_eq_true (by first | (with_reducible assumption) | assumption)
           have hcut26 := cut_mid (P := Tryd.prog) 26 5 .i64 .i64 Tryd.underlying26 hi026 1 hsz26 (some ad470) l0.length c0 t468 (wrap64 (t468 + t467)) q026 ql26 q26 hroom26
           have hr26 := Kd.C_mid (lo := (t468 : Int).toNat) (hi := ((wrap64 (t468 + t467)) : Int).toNat) (c := c0) hC26 (by omega) (by omega) hroom26
           obtain ⟨A26, hA26⟩ : ∃ A1, A1 = (if c0 = (t468 : Int).toNat then (some ad470) else ((some ad470) : Option Addr).map (·.add ((t468 : Int).toNat * 1))) := ⟨_, rfl⟩
           obtain ⟨c26, hc26⟩ : ∃ c1, c1 = c0 - (t468 : Int).toNat := ⟨_, rfl⟩
           have hy26 : y475.length = ((wrap64 (t468 + t467)) : Int).toNat - (t468 : Int).toNat := (by rw [Ny475.out, List.length_drop, List.length_take] <;> omega)
           rw [show ((l0).take ((wrap64 (t468 + t467)) : Int).toNat).drop (t468 : Int).toNat = y475 from Ny475.out.symm] at hr26
           replace hr26 : Kd.C (Kd.int .u8) _ A26 y475.length y475 := (by rw [hA26]; exact hr26)
           rw [← hy26, ← hA26, ← hc26] at hcut26
           have HR478 := Aside0.mk hr26
           have HC478 := Aside0.mk (show y475.length ≤ c26 from by rw [hy26, hc26]; exact Nat.sub_le_sub_right (Nat.le_trans (by omega) hroom26) _)
           clear hr26 hC26 hroom26 hi026 hsz26 hc26
           have KY26 := Aside0.mk hy26
           have KA26 := Aside0.mk hA26
           clear hy26 hA26
           replace q26 := eq_true q26
           go_wp2_with (first | ((with_reducible refine gate_callee (f := 29) rfl ?_); refine goesL_ (some 55) rfl rfl Tryd.func29 (by kernel_rfl) rfl #[.slice A26 y475.length c26] rfl (by (try simp only [List.map_toArray, List.map_cons, List.map_nil]); first | done | rfl | (simp only [List.length_drop, List.length_take]; rfl)) ?_; (with_reducible refine (spec_UnHuff.calls kj3 _ _ y475 t479 false _ ?side1 ?side2 A19.out).mono ?_); (case side1 => repeat (first | exact (Kd.C_below HR478.out HB.out) | (with_reducible refine Kd.C_alloc ?_ _) | (with_reducible refine Kd.C_drewN ?_ _) | (with_reducible refine Kd.C_drew ?_))); (case side2 => exact HC478.out); rintro e w27 ⟨rfl, hb⟩; refine ⟨_, rfl, ?_⟩; have n0_ := Aside0.mk (below_step (by repeat (first | (with_reducible first | exact HB.out | apply below_alloc | apply pw_below_drewN | apply below_drew1) | exact HB.out)) hb); clear HB; have HB := n0_; clear n0_; (try clear hb); (try clear hb2); (try clear hk); (try clear hi)))
           go_ret3
           exact ⟨by first | rfl | (simp [errW_none, errW_some] <;> rfl) | (simp [*, errW_none, errW_some] <;> rfl), by repeat (first | (with_reducible first | exact HB.out | apply below_alloc | apply pw_below_drewN | apply below_drew1) | exact HB.out)⟩
         ·
          rw [if_neg c18] at H
          exact absurd H (by simp)
        ·
         rw [if_neg c17] at H
         exact absurd H (by simp)
       ·
        rw [if_neg c16] at H
        exact absurd H (by simp)
     ·
      rw [if_neg c9] at H
      exact absurd H (by simp)
    ·
     rw [if_neg c8] at H
     exact absurd H (by simp)

end Go.Proofs.YthflimnpiglgbaaDoor.A
