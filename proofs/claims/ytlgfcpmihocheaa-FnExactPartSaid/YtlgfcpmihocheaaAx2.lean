/- Written by a program of this session, out of the translation: functions as plain Lean functions, and that the machine's calls answer as they do. Condition: none beyond each theorem's own. -/
import Derived.Test.YtlgfcpmihocheaaAx0
import Derived.Test.YtlgfcpmihocheaaAx1
namespace Go.Proofs.Ytlgfcpmihocheaa.A
open Go.RowKit Go.Proofs.YtlgfcpmihocheaaW.PrintWords Go.Proofs.YtlgfcpmihocheaaW.PrintLast Go.Proofs.YtlgfcpmihocheaaW.PrintMore
attribute [local go_sem] max2_int min2_int max_two min_two max_three min_three max_four min_four   -- for this text's walks alone
set_option linter.unusedVariables false
set_option linter.unusedSimpArgs false

/-! ### spec_Part: function 17 -/
mutual
def spec_Part.j0 : Nat → Int → Bool → List Int → Int → List (S59) → Option ((List (S59)))
 | 0, _, _, _, _, _ => none
 | k + 1, x0, x1, x2, x3, x9 => if x3 > 1000 then (spec_Part.j1 k x0 x1 x2 1000 x9) else (spec_Part.j1 k x0 x1 x2 x3 x9)
def spec_Part.j1 : Nat → Int → Bool → List Int → Int → List (S59) → Option ((List (S59)))
 | 0, _, _, _, _, _ => none
 | k + 1, x0, x1, x2, x3, x9 => spec_Part.l0 k x0 x1 x2 x3 x9 0
def spec_Part.l0 : Nat → Int → Bool → List Int → Int → List (S59) → Int → Option ((List (S59)))
 | 0, _, _, _, _, _, _ => none
 | k + 1, x0, x1, x2, x3, x9, x10 => if x10 = 0 then (spec_Part.j3 k x0 x1 x2 x3 x9 x10 true) else (spec_Part.j3 k x0 x1 x2 x3 x9 x10 (decide (x10 < (x2.length : Int))))
def spec_Part.j3 : Nat → Int → Bool → List Int → Int → List (S59) → Int → Bool → Option ((List (S59)))
 | 0, _, _, _, _, _, _, _ => none
 | k + 1, x0, x1, x2, x3, x9, x10, x29 => if x29 = true then (if x10 = 0 then (if x1 = true then (spec_Part.j4 k x0 x1 x2 x3 x9 x10 1 1 x0) else (spec_Part.j4 k x0 x1 x2 x3 x9 x10 1 0 x0)) else (spec_Part.j4 k x0 x1 x2 x3 x9 x10 9 0 x0)) else (some x9)
def spec_Part.j4 : Nat → Int → Bool → List Int → Int → List (S59) → Int → Int → Int → Int → Option ((List (S59)))
 | 0, _, _, _, _, _, _, _, _, _ => none
 | k + 1, x0, x1, x2, x3, x9, x10, x106000, x106001, x106002 => if (wrap64 (x10 + x3)) ≥ (x2.length : Int) then ((some (([] : List Int) : List Int)).bind fun y106 => (if 0 ≤ x10 then (if x10 ≤ (x2.length : Int) then (if (x2.length : Int) ≤ (x2.length : Int) then ((some ((x2.take ((x2.length : Int) : Int).toNat).drop (x10 : Int).toNat : List Int)).bind fun y109 => (if y106.length + y109.length < 140737488355328 then (if x9.length < 2932031007402 then (spec_Part.l0 k x0 x1 x2 x3 (x9 ++ [(⟨x106000, Go.bits .or .i64 x106001 4, x106002, (y106 ++ y109)⟩ : S59)]) (wrap64 (x10 + x3))) else (none)) else (none))) else (none)) else (none)) else (none))) else ((some (([] : List Int) : List Int)).bind fun y119 => (if 0 ≤ x10 then (if x10 ≤ (wrap64 (x10 + x3)) then (if (wrap64 (x10 + x3)) ≤ (x2.length : Int) then ((some ((x2.take ((wrap64 (x10 + x3)) : Int).toNat).drop (x10 : Int).toNat : List Int)).bind fun y122 => (if y119.length + y122.length < 140737488355328 then (if x9.length < 2932031007402 then (spec_Part.l0 k x0 x1 x2 x3 (x9 ++ [(⟨x106000, x106001, x106002, (y119 ++ y122)⟩ : S59)]) (wrap64 (x10 + x3))) else (none)) else (none))) else (none)) else (none)) else (none)))
end
def spec_Part.f (k : Nat) (a0 : Int) (a1 : Bool) (l2 : List Int) (a3 : Int) : Option ((List (S59))) := (some (([] : List (S59)) : List (S59))).bind fun y101 => ((spec_l1In.f a0 1 2147483647).bind fun t104 => (if t104 = true then (if a3 < 1 then (spec_Part.j0 k a0 a1 l2 1 y101) else (spec_Part.j0 k a0 a1 l2 a3 y101)) else (some y101)))
theorem spec_Part.mono_l : ∀ k, (∀ y0 y1 y2 y3 y4, LeO (spec_Part.j0 k y0 y1 y2 y3 y4) (spec_Part.j0 (k + 1) y0 y1 y2 y3 y4)) ∧ (∀ y0 y1 y2 y3 y4, LeO (spec_Part.j1 k y0 y1 y2 y3 y4) (spec_Part.j1 (k + 1) y0 y1 y2 y3 y4)) ∧ (∀ y0 y1 y2 y3 y4 y5, LeO (spec_Part.l0 k y0 y1 y2 y3 y4 y5) (spec_Part.l0 (k + 1) y0 y1 y2 y3 y4 y5)) ∧ (∀ y0 y1 y2 y3 y4 y5 y6, LeO (spec_Part.j3 k y0 y1 y2 y3 y4 y5 y6) (spec_Part.j3 (k + 1) y0 y1 y2 y3 y4 y5 y6)) ∧ (∀ y0 y1 y2 y3 y4 y5 y6 y7 y8, LeO (spec_Part.j4 k y0 y1 y2 y3 y4 y5 y6 y7 y8) (spec_Part.j4 (k + 1) y0 y1 y2 y3 y4 y5 y6 y7 y8))
 | 0 => ⟨fun _ _ _ _ _ r h => by simp [spec_Part.j0] at h, fun _ _ _ _ _ r h => by simp [spec_Part.j1] at h, fun _ _ _ _ _ _ r h => by simp [spec_Part.l0] at h, fun _ _ _ _ _ _ _ r h => by simp [spec_Part.j3] at h, fun _ _ _ _ _ _ _ _ _ r h => by simp [spec_Part.j4] at h⟩
 | k + 1 => by
  obtain ⟨ih0, ih1, ih2, ih3, ih4⟩ := spec_Part.mono_l k
  refine ⟨?_, ?_, ?_, ?_, ?_⟩
  ·
   intro y0 y1 y2 y3 y4
   unfold spec_Part.j0
   repeat' first
   | (with_reducible exact ih0 _ _ _ _ _)
   | (with_reducible exact ih1 _ _ _ _ _)
   | (with_reducible exact ih2 _ _ _ _ _ _)
   | (with_reducible exact ih3 _ _ _ _ _ _ _)
   | (with_reducible exact ih4 _ _ _ _ _ _ _ _ _)
   | (with_reducible exact LeO.refl _)
   | (with_reducible exact LeO.none _)
   | (with_reducible refine LeO.ite ?_ ?_)
   | (with_reducible refine LeO.bind ?_ (fun _ => ?_))
   | exact ih0 _ _ _ _ _
   | exact ih1 _ _ _ _ _
   | exact ih2 _ _ _ _ _ _
   | exact ih3 _ _ _ _ _ _ _
   | exact ih4 _ _ _ _ _ _ _ _ _
   | exact LeO.none _
   | refine LeO.ite ?_ ?_
   | refine LeO.bind ?_ (fun _ => ?_)
  ·
   intro y0 y1 y2 y3 y4
   unfold spec_Part.j1
   repeat' first
   | (with_reducible exact ih0 _ _ _ _ _)
   | (with_reducible exact ih1 _ _ _ _ _)
   | (with_reducible exact ih2 _ _ _ _ _ _)
   | (with_reducible exact ih3 _ _ _ _ _ _ _)
   | (with_reducible exact ih4 _ _ _ _ _ _ _ _ _)
   | (with_reducible exact LeO.refl _)
   | (with_reducible exact LeO.none _)
   | (with_reducible refine LeO.ite ?_ ?_)
   | (with_reducible refine LeO.bind ?_ (fun _ => ?_))
   | exact ih0 _ _ _ _ _
   | exact ih1 _ _ _ _ _
   | exact ih2 _ _ _ _ _ _
   | exact ih3 _ _ _ _ _ _ _
   | exact ih4 _ _ _ _ _ _ _ _ _
   | exact LeO.none _
   | refine LeO.ite ?_ ?_
   | refine LeO.bind ?_ (fun _ => ?_)
  ·
   intro y0 y1 y2 y3 y4 y5
   unfold spec_Part.l0
   repeat' first
   | (with_reducible exact ih0 _ _ _ _ _)
   | (with_reducible exact ih1 _ _ _ _ _)
   | (with_reducible exact ih2 _ _ _ _ _ _)
   | (with_reducible exact ih3 _ _ _ _ _ _ _)
   | (with_reducible exact ih4 _ _ _ _ _ _ _ _ _)
   | (with_reducible exact LeO.refl _)
   | (with_reducible exact LeO.none _)
   | (with_reducible refine LeO.ite ?_ ?_)
   | (with_reducible refine LeO.bind ?_ (fun _ => ?_))
   | exact ih0 _ _ _ _ _
   | exact ih1 _ _ _ _ _
   | exact ih2 _ _ _ _ _ _
   | exact ih3 _ _ _ _ _ _ _
   | exact ih4 _ _ _ _ _ _ _ _ _
   | exact LeO.none _
   | refine LeO.ite ?_ ?_
   | refine LeO.bind ?_ (fun _ => ?_)
  ·
   intro y0 y1 y2 y3 y4 y5 y6
   unfold spec_Part.j3
   repeat' first
   | (with_reducible exact ih0 _ _ _ _ _)
   | (with_reducible exact ih1 _ _ _ _ _)
   | (with_reducible exact ih2 _ _ _ _ _ _)
   | (with_reducible exact ih3 _ _ _ _ _ _ _)
   | (with_reducible exact ih4 _ _ _ _ _ _ _ _ _)
   | (with_reducible exact LeO.refl _)
   | (with_reducible exact LeO.none _)
   | (with_reducible refine LeO.ite ?_ ?_)
   | (with_reducible refine LeO.bind ?_ (fun _ => ?_))
   | exact ih0 _ _ _ _ _
   | exact ih1 _ _ _ _ _
   | exact ih2 _ _ _ _ _ _
   | exact ih3 _ _ _ _ _ _ _
   | exact ih4 _ _ _ _ _ _ _ _ _
   | exact LeO.none _
   | refine LeO.ite ?_ ?_
   | refine LeO.bind ?_ (fun _ => ?_)
  ·
   intro y0 y1 y2 y3 y4 y5 y6 y7 y8
   unfold spec_Part.j4
   repeat' first
   | (with_reducible exact ih0 _ _ _ _ _)
   | (with_reducible exact ih1 _ _ _ _ _)
   | (with_reducible exact ih2 _ _ _ _ _ _)
   | (with_reducible exact ih3 _ _ _ _ _ _ _)
   | (with_reducible exact ih4 _ _ _ _ _ _ _ _ _)
   | (with_reducible exact LeO.refl _)
   | (with_reducible exact LeO.none _)
   | (with_reducible refine LeO.ite ?_ ?_)
   | (with_reducible refine LeO.bind ?_ (fun _ => ?_))
   | exact ih0 _ _ _ _ _
   | exact ih1 _ _ _ _ _
   | exact ih2 _ _ _ _ _ _
   | exact ih3 _ _ _ _ _ _ _
   | exact ih4 _ _ _ _ _ _ _ _ _
   | exact LeO.none _
   | refine LeO.ite ?_ ?_
   | refine LeO.bind ?_ (fun _ => ?_)
theorem spec_Part.mono : ∀ a0 a1 a2 a3 k, LeO (spec_Part.f k a0 a1 a2 a3) (spec_Part.f (k + 1) a0 a1 a2 a3) := by
 intro a0 a1 a2 a3 k
 obtain ⟨ih0, ih1, ih2, ih3, ih4⟩ := spec_Part.mono_l k
 unfold spec_Part.f
 repeat' first
   | (with_reducible exact ih0 _ _ _ _ _)
   | (with_reducible exact ih1 _ _ _ _ _)
   | (with_reducible exact ih2 _ _ _ _ _ _)
   | (with_reducible exact ih3 _ _ _ _ _ _ _)
   | (with_reducible exact ih4 _ _ _ _ _ _ _ _ _)
   | (with_reducible exact LeO.refl _)
   | (with_reducible exact LeO.none _)
   | (with_reducible refine LeO.ite ?_ ?_)
   | (with_reducible refine LeO.bind ?_ (fun _ => ?_))
   | exact ih0 _ _ _ _ _
   | exact ih1 _ _ _ _ _
   | exact ih2 _ _ _ _ _ _
   | exact ih3 _ _ _ _ _ _ _
   | exact ih4 _ _ _ _ _ _ _ _ _
   | exact LeO.none _
   | refine LeO.ite ?_ ?_
   | refine LeO.bind ?_ (fun _ => ?_)
set_option maxHeartbeats 8000000 in
set_option maxRecDepth 100000 in
theorem spec_Part.calls (k : Nat) (a0 : Int) (a1 : Bool) (A2 : Option Addr) (c2 : Nat) (l2 : List Int) (a3 : Int) (r : List (S59)) (w : World) (hr2 : Kd.C (Kd.int .u8) w A2 l2.length l2) (hc2 : l2.length ≤ c2) (h : spec_Part.f k a0 a1 l2 a3 = some r) :
  Calls Try.prog 17 #[.int .i64 a0, .bool a1, .slice A2 l2.length c2, .int .i64 a3] w fun e w' => ∃ v0_ : Value, e = .returned (v0_) ∧ Kd.S k59 59 w' w.heap.size (fun _ => True) v0_ r ∧ Below w.heap.size w w' := by
 have hu59 := Try.underlying59
 have HR2 := Aside0.mk hr2
 have HC2 := Aside0.mk hc2
 clear hr2 hc2
 have HB := Aside0.mk (Below.refl w.heap.size w)
 have H : ((some (([] : List (S59)) : List (S59))).bind fun y101 => ((spec_l1In.f a0 1 2147483647).bind fun t104 => (if t104 = true then (if a3 < 1 then (spec_Part.j0 k a0 a1 l2 1 y101) else (spec_Part.j0 k a0 a1 l2 a3 y101)) else (some y101)))) = some r := h
 clear h
 obtain ⟨y101, hy101⟩ : ∃ y_ : List (S59), y_ = (([] : List (S59))) := ⟨_, rfl⟩
 replace H : ((spec_l1In.f a0 1 2147483647).bind fun t104 => (if t104 = true then (if a3 < 1 then (spec_Part.j0 k a0 a1 l2 1 y101) else (spec_Part.j0 k a0 a1 l2 a3 y101)) else (some y101))) = some r := by first | (rw [hy101]; with_reducible exact H) | (have H2_ := (Option.bind_some _ _).symm.trans H; rw [hy101]; with_reducible exact H2_) | (have H2_ := (Option.bind_some _ _).symm.trans H; with_reducible exact H2_) | with_reducible exact H | (rw [hy101]; exact H) | exact H
 have Ny101 := Aside0.mk hy101
 clear hy101
 replace H := Option.bind_eq_some_iff.mp H
 obtain ⟨t104, A50, H⟩ := H
 replace H : (if t104 = true then (if a3 < 1 then (spec_Part.j0 k a0 a1 l2 1 y101) else (spec_Part.j0 k a0 a1 l2 a3 y101)) else (some y101)) = some r := H
 have A5 := Aside0.mk A50
 clear A50
 by_cases c6 : t104 = true
 ·
  subst c6
  have H1 : (if a3 < 1 then (spec_Part.j0 k a0 a1 l2 1 y101) else (spec_Part.j0 k a0 a1 l2 a3 y101)) = some r := by rw [if_pos rfl] at H; exact H
  clear H
  have H := H1
  clear H1
  have HC7 := Aside0.mk H
  clear H
  go_enter Try.func17, Try.ntmps17
  go_upto_if 19 with (first | ((with_reducible refine gate_dst (N := 13) rfl ?_); (try (refine gate_guard (by rfl) ?_; dsimp only)); refine Kd.S_lit k59 _ 59 ?hg (N := 13) ?hd (xs := ([] : List (S59))) (inner := []) (ok := fun _ => True) (okp := fun _ => True) ?hr ?hp (fun _ hk => hk) trivial (Below.refl _ _) (Nat.le_refl _) (by simp) ?_; (case hd => rfl); (case hg => rfl); (case hr => first | (go_simp; done) | (go_simp; rfl)); (case hp => exact (Reps.none _ _)); intro v102 w8 ho9 hb hg_ hnew_; clear hg_ hnew_; (first | rw [← Ny101.out] at ho9 | (simp only [Int.reduceToNat] at ho9; rw [← Ny101.out] at ho9)); have n0_ := Aside0.mk (Kd.S_lower ho9 (below_size (by repeat (first | (with_reducible first | exact HB.out | apply below_alloc | apply pw_below_drewN | apply below_drew1) | exact HB.out)))); have n1_ := Aside0.mk (below_step (by repeat (first | (with_reducible first | exact HB.out | apply below_alloc | apply pw_below_drewN | apply below_drew1) | exact HB.out)) hb); clear HB; have HO103 := n0_; have HB := n1_; clear n0_ n1_; clear hb ho9) | ((with_reducible refine gate_callee (f := 55) rfl ?_); refine goesL_ (some 15) rfl rfl Try.func55 (by kernel_rfl) rfl #[.int .i64 a0, .int .i64 1, .int .i64 2147483647] rfl (by (try simp only [List.map_toArray, List.map_cons, List.map_nil]); first | done | rfl | (simp only [List.length_drop, List.length_take]; rfl)) ?_; (with_reducible refine (spec_l1In.calls a0 1 2147483647 true _ A5.out).mono ?_); rintro e w' ⟨rfl, ⟨nd, rfl⟩⟩; refine ⟨_, rfl, ?_⟩))
  (try simp only [Act.put, List.setIfInBounds_toArray, List.set_cons_zero, List.set_cons_succ])
  go_cut [3] (fun v3 wc => ∃ (kq : Nat) (x3_6 : Int), v3 = .int .i64 x3_6 ∧ Aside0 (spec_Part.j0 kq a0 a1 l2 x3_6 y101 = some r) ∧ Aside0 (kq ≤ k) ∧ Aside0 (Kd.S k59 59 wc w.heap.size (fun _ => True) v102 y101) ∧ Aside0 (Below w.heap.size w wc))
  case first =>
   have H := HC7.out
   clear HC7
   by_cases c10 : a3 < 1
   ·
    rw [if_pos c10] at H
    have c10b0 : decide (a3 < 1) = true := decide_eq_true c10
    clear c10
    (first | rw [c10b0] | (simp only [i64_w, i32_w]; rw [c10b0]) | rw [c10b1] | skip)
    have H' := Aside0.mk H
    clear H
    go_wp2
    go_meet
    case rel => exact ⟨_, (1), (by first | rfl | (simp; done) | (simp [*]; done)), H', ⟨by first | omega | exact Nat.le_refl _⟩, ⟨by (with_reducible repeat (first | apply Kd.S_alloc | apply Kd.S_drewN | apply Kd.S_drew)); exact HO103.out⟩, ⟨by repeat (first | (with_reducible first | exact HB.out | apply below_alloc | apply pw_below_drewN | apply below_drew1) | exact HB.out)⟩⟩
   ·
    rw [if_neg c10] at H
    have c10b0 : decide (a3 < 1) = false := decide_eq_false c10
    clear c10
    (first | rw [c10b0] | (simp only [i64_w, i32_w]; rw [c10b0]) | rw [c10b1] | skip)
    have H' := Aside0.mk H
    clear H
    go_wp2
    go_meet
    case rel => exact ⟨_, (a3), (by first | rfl | (simp; done) | (simp [*]; done)), H', ⟨by first | omega | exact Nat.le_refl _⟩, ⟨by (with_reducible repeat (first | apply Kd.S_alloc | apply Kd.S_drewN | apply Kd.S_drew)); exact HO103.out⟩, ⟨by repeat (first | (with_reducible first | exact HB.out | apply below_alloc | apply pw_below_drewN | apply below_drew1) | exact HB.out)⟩⟩
  case rest =>
   clear HC7
   try clear c1
   try clear c2
   try clear p2
   try clear c5
   try clear c6
   try clear c10
   try clear c10b0
   try clear c10b1
   obtain ⟨kq, x3_6, rfl, HA, HJ6, HO_9, HB⟩ := hcut
   cases kq with
   | zero => exact absurd HA.out (by simp [spec_Part.j0])
   | succ kj6 =>
    have H := HA.out
    clear HA
    simp only [spec_Part.j0] at H
    have HC11 := Aside0.mk H
    clear H
    go_upto_if 21 with (fail)
    go_cut [3] (fun v3 wc => ∃ (kq : Nat) (x3_10 : Int), v3 = .int .i64 x3_10 ∧ Aside0 (spec_Part.j1 kq a0 a1 l2 x3_10 y101 = some r) ∧ Aside0 (kq ≤ kj6) ∧ Aside0 (Kd.S k59 59 wc w.heap.size (fun _ => True) v102 y101) ∧ Aside0 (Below w.heap.size w wc))
    case first =>
     have H := HC11.out
     clear HC11
     by_cases c12 : x3_6 > 1000
     ·
      rw [if_pos c12] at H
      have c12b0 : decide (1000 < x3_6) = true := decide_eq_true c12
      clear c12
      (first | rw [c12b0] | (simp only [i64_w, i32_w]; rw [c12b0]) | rw [c12b1] | skip)
      have H' := Aside0.mk H
      clear H
      go_wp2
      go_meet
      case rel => exact ⟨_, (1000), (by first | rfl | (simp; done) | (simp [*]; done)), H', ⟨by have := HJ6.out; first | omega | exact Nat.le_refl _⟩, ⟨by (with_reducible repeat (first | apply Kd.S_alloc | apply Kd.S_drewN | apply Kd.S_drew)); exact HO_9.out⟩, ⟨by repeat (first | (with_reducible first | exact HB.out | apply below_alloc | apply pw_below_drewN | apply below_drew1) | exact HB.out)⟩⟩
     ·
      rw [if_neg c12] at H
      have c12b0 : decide (1000 < x3_6) = false := decide_eq_false c12
      clear c12
      (first | rw [c12b0] | (simp only [i64_w, i32_w]; rw [c12b0]) | rw [c12b1] | skip)
      have H' := Aside0.mk H
      clear H
      go_wp2
      go_meet
      case rel => exact ⟨_, (x3_6), (by first | rfl | (simp; done) | (simp [*]; done)), H', ⟨by have := HJ6.out; first | omega | exact Nat.le_refl _⟩, ⟨by (with_reducible repeat (first | apply Kd.S_alloc | apply Kd.S_drewN | apply Kd.S_drew)); exact HO_9.out⟩, ⟨by repeat (first | (with_reducible first | exact HB.out | apply below_alloc | apply pw_below_drewN | apply below_drew1) | exact HB.out)⟩⟩
    case rest =>
     clear HC11
     try clear c1
     try clear c2
     try clear p2
     try clear c5
     try clear c6
     try clear c10
     try clear c10b0
     try clear c10b1
     try clear c12
     try clear c12b0
     try clear c12b1
     try clear p2
     obtain ⟨kq, x3_10, rfl, HA, HJ10, HO_9, HB⟩ := hcut
     cases kq with
     | zero => exact absurd HA.out (by simp [spec_Part.j1])
     | succ kj10 =>
      have H := HA.out
      clear HA
      simp only [spec_Part.j1] at H
      have H' := Aside0.mk H
      clear H
      go_wp2
      go_loopg [9, 10] kj10 (fun kq v9 v10 w' => ∃ (x9_3 : List (S59)) (x10_3 : Int), v10 = .int .i64 x10_3 ∧ Aside0 (spec_Part.l0 kq a0 a1 l2 x3_10 x9_3 x10_3 = some r) ∧ Aside0 (kq ≤ kj10) ∧ Aside0 (Kd.S k59 59 w' w.heap.size (fun _ => True) v9 x9_3) ∧ Aside0 (Below w.heap.size w w'))
      case atStart => exact ⟨(y101), (0), (by first | rfl | (simp; done) | (simp [*]; done)), H', ⟨Nat.le_refl _⟩, ⟨by (with_reducible repeat (first | apply Kd.S_alloc | apply Kd.S_drewN | apply Kd.S_drew)); exact HO_9.out⟩, ⟨by repeat (first | (with_reducible first | exact HB.out | apply below_alloc | apply pw_below_drewN | apply below_drew1) | exact HB.out)⟩⟩
      case round =>
       clear H'
       try clear c1
       try clear c2
       try clear p2
       try clear c5
       try clear c6
       try clear c10
       try clear c10b0
       try clear c10b1
       try clear c12
       try clear c12b0
       try clear c12b1
       try clear p2
       obtain ⟨x9_3, x10_3, rfl, HA, HK3, HO_9, HB⟩ := hrel
       cases gk with
       | zero => exact absurd HA.out (by simp [spec_Part.l0])
       | succ k3 =>
        have H := HA.out
        clear HA
        simp only [spec_Part.l0] at H
        have HC13 := Aside0.mk H
        clear H
        go_upto_region 9 with (fail)
        go_cut [29] (fun v29 wc => ∃ (kq : Nat) (x29_12 : Bool), v29 = .bool x29_12 ∧ Aside0 (spec_Part.j3 kq a0 a1 l2 x3_10 x9_3 x10_3 x29_12 = some r) ∧ Aside0 (kq ≤ k3) ∧ Aside0 (Kd.S k59 59 wc w.heap.size (fun _ => True) u9 x9_3) ∧ Aside0 (Below w.heap.size w wc))
        case first =>
         have H := HC13.out
         clear HC13
         by_cases c14 : x10_3 = 0
         ·
          rw [if_pos c14] at H
          have c14b0 : (x10_3 == 0) = true := beq_iff_eq.mpr c14
          have c14b1 : (x10_3 != 0) = false := bne_eq_false_iff_eq.mpr c14
          clear c14
          (first | rw [c14b0] | (simp only [i64_w, i32_w]; rw [c14b0]) | rw [c14b1] | skip)
          have H' := Aside0.mk H
          clear H
          go_wp2
          go_meet
          case rel => exact ⟨_, (true), (by first | rfl | (simp; done) | (simp [*]; done)), H', ⟨by have := HJ6.out; have := HJ10.out; have := HK3.out; first | omega | exact Nat.le_refl _⟩, ⟨by (with_reducible repeat (first | apply Kd.S_alloc | apply Kd.S_drewN | apply Kd.S_drew)); exact HO_9.out⟩, ⟨by repeat (first | (with_reducible first | exact HB.out | apply below_alloc | apply pw_below_drewN | apply below_drew1) | exact HB.out)⟩⟩
         ·
          rw [if_neg c14] at H
          have c14b0 : (x10_3 == 0) = false := beq_eq_false_iff_ne.mpr c14
          have c14b1 : (x10_3 != 0) = true := bne_iff_ne.mpr c14
          (first | rw [c14b0] | (simp only [i64_w, i32_w]; rw [c14b0]) | rw [c14b1] | skip)
          have H' := Aside0.mk H
          clear H
          go_wp2
          go_meet
          case rel => exact ⟨_, (decide (x10_3 < (l2.length : Int))), (by first | rfl | (simp; done) | (simp [*]; done)), H', ⟨by have := HJ6.out; have := HJ10.out; have := HK3.out; first | omega | exact Nat.le_refl _⟩, ⟨by (with_reducible repeat (first | apply Kd.S_alloc | apply Kd.S_drewN | apply Kd.S_drew)); exact HO_9.out⟩, ⟨by repeat (first | (with_reducible first | exact HB.out | apply below_alloc | apply pw_below_drewN | apply below_drew1) | exact HB.out)⟩⟩
        case rest =>
         clear HC13
         try clear c1
         try clear c2
         try clear p2
         try clear c5
         try clear c6
         try clear c10
         try clear c10b0
         try clear c10b1
         try clear c12
         try clear c12b0
         try clear c12b1
         try clear c14
         try clear c14b0
         try clear c14b1
         try clear p2
         obtain ⟨kq, x29_12, rfl, HA, HJ12, HO_9, HB⟩ := hcut
         cases kq with
         | zero => exact absurd HA.out (by simp [spec_Part.j3])
         | succ kj12 =>
          have H := HA.out
          clear HA
          simp only [spec_Part.j3] at H
          by_cases c15 : x29_12 = true
          ·
           subst c15
           have H1 : (if x10_3 = 0 then (if a1 = true then (spec_Part.j4 kj12 a0 a1 l2 x3_10 x9_3 x10_3 1 1 a0) else (spec_Part.j4 kj12 a0 a1 l2 x3_10 x9_3 x10_3 1 0 a0)) else (spec_Part.j4 kj12 a0 a1 l2 x3_10 x9_3 x10_3 9 0 a0)) = some r := by rw [if_pos rfl] at H; exact H
           clear H
           have H := H1
           clear H1
           have HC16 := Aside0.mk H
           clear H
           go_upto_if 36 with (first | ((with_reducible refine gate_dst (N := 11) rfl ?_); (try (refine gate_guard (by rfl) ?_; dsimp only)); refine box_event ?hg (N := 11) ?hd (cs := #[.int .i64 0, .int .i64 0, .int .i64 0, .slice none 0 0]) (t := 59) ?hr ?_; (case hd => rfl); (case hg => rfl); (case hr => first | (go_simp; done) | (go_simp; rfl)); intro gb105 hg w17 hbox hb; have n0_ := Aside0.mk (Kd.S_below (Kd.S_elderB (by (with_reducible repeat (first | apply Kd.S_alloc | apply Kd.S_drewN | apply Kd.S_drew)); exact HO_9.out) gb105 (Nat.le_of_eq hg.symm)) hb); have n1_ := Aside0.mk (below_step (by repeat (first | (with_reducible first | exact HB.out | apply below_alloc | apply pw_below_drewN | apply below_drew1) | exact HB.out)) hb); have n2_ := Aside0.mk (hbox); have n3_ := Aside0.mk ((by rw [hg]; exact (below_size (by repeat (first | (with_reducible first | exact HB.out | apply below_alloc | apply pw_below_drewN | apply below_drew1) | exact HB.out))) : w.heap.size ≤ gb105)); have n4_ := Aside0.mk ((by rw [hg]; exact (below_size (by repeat (first | (with_reducible first | exact HB.out | apply below_alloc | apply pw_below_drewN | apply below_drew1) | exact HB.out))) : w.heap.size ≤ gb105)); clear HO_9; clear HB; have HO_9 := n0_; have HB := n1_; have BK105 := n2_; have GW105 := n3_; have GE105 := n4_; clear n0_ n1_ n2_ n3_ n4_; clear hb hbox hg; have hcz18_0 : w17.cell? ⟨gb105, 0, none⟩ = some (.int .i64 0) := (blk_cell BK105.out 0).trans rfl; have hcz18_1 : w17.cell? ⟨gb105, 1, none⟩ = some (.int .i64 0) := (blk_cell BK105.out 1).trans rfl; have hcz18_2 : w17.cell? ⟨gb105, 2, none⟩ = some (.int .i64 0) := (blk_cell BK105.out 2).trans rfl; have hcz18_3 : w17.cell? ⟨gb105, 3, none⟩ = some (.slice none 0 0) := (blk_cell BK105.out 3).trans rfl; have hfz18_0 := blk_frozen BK105.out 0; have hfz18_1 := blk_frozen BK105.out 1; have hfz18_2 := blk_frozen BK105.out 2; have hfz18_3 := blk_frozen BK105.out 3))
           (try simp only [Act.put, List.setIfInBounds_toArray, List.set_cons_zero, List.set_cons_succ])
           go_cut [] (fun wc => ∃ (kq : Nat) (x106000_15 : Int) (x106001_15 : Int), Aside0 (spec_Part.j4 kq a0 a1 l2 x3_10 x9_3 x10_3 x106000_15 x106001_15 a0 = some r) ∧ Aside0 (kq ≤ kj12) ∧ Aside0 (Kd.S k59 59 wc w.heap.size (fun k_ => k_ ≠ gb105) u9 x9_3) ∧ Aside0 (wc.heap[gb105]? = some (.cells #[.int .i64 x106000_15, .int .i64 x106001_15, .int .i64 a0, (.slice none 0 0)] 59 (0, 0))) ∧ Aside0 (Below w.heap.size w wc))
           case first =>
            have H := HC16.out
            clear HC16
            by_cases c19 : x10_3 = 0
            ·
             rw [if_pos c19] at H
             have c19b0 : (x10_3 == 0) = true := beq_iff_eq.mpr c19
             have c19b1 : (x10_3 != 0) = false := bne_eq_false_iff_eq.mpr c19
             clear c19
             (first | rw [c19b0] | (simp only [i64_w, i32_w]; rw [c19b0]) | rw [c19b1] | skip)
             by_cases c20 : a1 = true
             ·
              subst c20
              have H1 : (spec_Part.j4 kj12 a0 true l2 x3_10 x9_3 x10_3 1 1 a0) = some r := by rw [if_pos rfl] at H; exact H
              clear H
              have H := H1
              clear H1
              have H' := Aside0.mk H
              clear H
              have hcz21_0 : w17.cell? ⟨gb105, 0, none⟩ = some (.int .i64 0) := (blk_cell BK105.out 0).trans rfl
              have hcz21_1 : w17.cell? ⟨gb105, 1, none⟩ = some (.int .i64 0) := (blk_cell BK105.out 1).trans rfl
              have hcz21_2 : w17.cell? ⟨gb105, 2, none⟩ = some (.int .i64 0) := (blk_cell BK105.out 2).trans rfl
              have hcz21_3 : w17.cell? ⟨gb105, 3, none⟩ = some (.slice none 0 0) := (blk_cell BK105.out 3).trans rfl
              have hfz21_0 := blk_frozen BK105.out 0
              have hfz21_1 := blk_frozen BK105.out 1
              have hfz21_2 := blk_frozen BK105.out 2
              have hfz21_3 := blk_frozen BK105.out 3
              go_wp2
              go_meet
              case rel => exact ⟨_, (1), (1), H', ⟨by have := HJ6.out; have := HJ10.out; have := HK3.out; have := HJ12.out; first | omega | exact Nat.le_refl _⟩, ⟨by (with_reducible repeat (first | apply Kd.S_alloc | apply Kd.S_drewN | apply Kd.S_drew)); exact Kd.S_mono (Kd.S_far (p := ⟨gb105, 1, none⟩) (Kd.S_far (p := ⟨gb105, 0, none⟩) (Kd.S_far (p := ⟨gb105, 3, none⟩) (Kd.S_far (p := ⟨gb105, 2, none⟩) (Kd.S_far (p := ⟨gb105, 1, none⟩) (Kd.S_far (p := ⟨gb105, 0, none⟩) (Kd.S_mono HO_9.out (fun k_ hk => (⟨hk, (by first | exact hk.2 | (have hq_ := hk; simp only [ne_eq] at hq_ ⊢; simp only [hq_, not_false_eq_true, and_self]))⟩ : _ ∧ k_ ≠ gb105))) (fun _ hk => hk.2) (.int .i64 9)) (fun _ hk => hk.2) (.int .i64 0)) (fun _ hk => hk.2) (.int .i64 a0)) (fun _ hk => hk.2) (.slice none 0 0)) (fun _ hk => hk.2) (.int .i64 1)) (fun _ hk => hk.2) (.int .i64 1)) (fun _ hk => (by first | exact hk.1.2 | (have hq_ := hk; simp only [ne_eq] at hq_ ⊢; simp only [hq_, not_false_eq_true, and_self])))⟩, ⟨by (with_reducible repeat (first | refine blk_drewN ?_ _ | refine blk_drew ?_ | refine blk_alloc ?_ _)); refine blk_put (cs := #[.int .i64 1, .int .i64 0, .int .i64 a0, .slice none 0 0]) ?_ 1 _ rfl; (with_reducible repeat (first | refine blk_drewN ?_ _ | refine blk_drew ?_ | refine blk_alloc ?_ _)); refine blk_put (cs := #[.int .i64 9, .int .i64 0, .int .i64 a0, .slice none 0 0]) ?_ 0 _ rfl; (with_reducible repeat (first | refine blk_drewN ?_ _ | refine blk_drew ?_ | refine blk_alloc ?_ _)); refine blk_put (cs := #[.int .i64 9, .int .i64 0, .int .i64 a0, .slice none 0 0]) ?_ 3 _ rfl; (with_reducible repeat (first | refine blk_drewN ?_ _ | refine blk_drew ?_ | refine blk_alloc ?_ _)); refine blk_put (cs := #[.int .i64 9, .int .i64 0, .int .i64 0, .slice none 0 0]) ?_ 2 _ rfl; (with_reducible repeat (first | refine blk_drewN ?_ _ | refine blk_drew ?_ | refine blk_alloc ?_ _)); refine blk_put (cs := #[.int .i64 9, .int .i64 0, .int .i64 0, .slice none 0 0]) ?_ 1 _ rfl; (with_reducible repeat (first | refine blk_drewN ?_ _ | refine blk_drew ?_ | refine blk_alloc ?_ _)); refine blk_put (cs := #[.int .i64 0, .int .i64 0, .int .i64 0, .slice none 0 0]) ?_ 0 _ rfl; (with_reducible repeat (first | refine blk_drewN ?_ _ | refine blk_drew ?_ | refine blk_alloc ?_ _)); exact BK105.out⟩, ⟨by repeat (first | (with_reducible first | exact HB.out | apply below_alloc | apply pw_below_drewN | apply below_drew1 | refine below_set ?_ GE105.out) | exact HB.out)⟩⟩
             ·
              replace c20 := Bool.eq_false_iff.mpr c20
              subst c20
              have H1 : (spec_Part.j4 kj12 a0 false l2 x3_10 x9_3 x10_3 1 0 a0) = some r := by rw [if_neg (show ¬ (false = true) by decide)] at H; exact H
              clear H
              have H := H1
              clear H1
              have H' := Aside0.mk H
              clear H
              have hcz22_0 : w17.cell? ⟨gb105, 0, none⟩ = some (.int .i64 0) := (blk_cell BK105.out 0).trans rfl
              have hcz22_1 : w17.cell? ⟨gb105, 1, none⟩ = some (.int .i64 0) := (blk_cell BK105.out 1).trans rfl
              have hcz22_2 : w17.cell? ⟨gb105, 2, none⟩ = some (.int .i64 0) := (blk_cell BK105.out 2).trans rfl
              have hcz22_3 : w17.cell? ⟨gb105, 3, none⟩ = some (.slice none 0 0) := (blk_cell BK105.out 3).trans rfl
              have hfz22_0 := blk_frozen BK105.out 0
              have hfz22_1 := blk_frozen BK105.out 1
              have hfz22_2 := blk_frozen BK105.out 2
              have hfz22_3 := blk_frozen BK105.out 3
              go_wp2
              go_meet
              case rel => exact ⟨_, (1), (0), H', ⟨by have := HJ6.out; have := HJ10.out; have := HK3.out; have := HJ12.out; first | omega | exact Nat.le_refl _⟩, ⟨by (with_reducible repeat (first | apply Kd.S_alloc | apply Kd.S_drewN | apply Kd.S_drew)); exact Kd.S_mono (Kd.S_far (p := ⟨gb105, 0, none⟩) (Kd.S_far (p := ⟨gb105, 3, none⟩) (Kd.S_far (p := ⟨gb105, 2, none⟩) (Kd.S_far (p := ⟨gb105, 1, none⟩) (Kd.S_far (p := ⟨gb105, 0, none⟩) (Kd.S_mono HO_9.out (fun k_ hk => (⟨hk, (by first | exact hk.2 | (have hq_ := hk; simp only [ne_eq] at hq_ ⊢; simp only [hq_, not_false_eq_true, and_self]))⟩ : _ ∧ k_ ≠ gb105))) (fun _ hk => hk.2) (.int .i64 9)) (fun _ hk => hk.2) (.int .i64 0)) (fun _ hk => hk.2) (.int .i64 a0)) (fun _ hk => hk.2) (.slice none 0 0)) (fun _ hk => hk.2) (.int .i64 1)) (fun _ hk => (by first | exact hk.1.2 | (have hq_ := hk; simp only [ne_eq] at hq_ ⊢; simp only [hq_, not_false_eq_true, and_self])))⟩, ⟨by (with_reducible repeat (first | refine blk_drewN ?_ _ | refine blk_drew ?_ | refine blk_alloc ?_ _)); refine blk_put (cs := #[.int .i64 9, .int .i64 0, .int .i64 a0, .slice none 0 0]) ?_ 0 _ rfl; (with_reducible repeat (first | refine blk_drewN ?_ _ | refine blk_drew ?_ | refine blk_alloc ?_ _)); refine blk_put (cs := #[.int .i64 9, .int .i64 0, .int .i64 a0, .slice none 0 0]) ?_ 3 _ rfl; (with_reducible repeat (first | refine blk_drewN ?_ _ | refine blk_drew ?_ | refine blk_alloc ?_ _)); refine blk_put (cs := #[.int .i64 9, .int .i64 0, .int .i64 0, .slice none 0 0]) ?_ 2 _ rfl; (with_reducible repeat (first | refine blk_drewN ?_ _ | refine blk_drew ?_ | refine blk_alloc ?_ _)); refine blk_put (cs := #[.int .i64 9, .int .i64 0, .int .i64 0, .slice none 0 0]) ?_ 1 _ rfl; (with_reducible repeat (first | refine blk_drewN ?_ _ | refine blk_drew ?_ | refine blk_alloc ?_ _)); refine blk_put (cs := #[.int .i64 0, .int .i64 0, .int .i64 0, .slice none 0 0]) ?_ 0 _ rfl; (with_reducible repeat (first | refine blk_drewN ?_ _ | refine blk_drew ?_ | refine blk_alloc ?_ _)); exact BK105.out⟩, ⟨by repeat (first | (with_reducible first | exact HB.out | apply below_alloc | apply pw_below_drewN | apply below_drew1 | refine below_set ?_ GE105.out) | exact HB.out)⟩⟩
            ·
             rw [if_neg c19] at H
             have c19b0 : (x10_3 == 0) = false := beq_eq_false_iff_ne.mpr c19
             have c19b1 : (x10_3 != 0) = true := bne_iff_ne.mpr c19
             (first | rw [c19b0] | (simp only [i64_w, i32_w]; rw [c19b0]) | rw [c19b1] | skip)
             have H' := Aside0.mk H
             clear H
             go_wp2
             go_meet
             case rel => exact ⟨_, (9), (0), H', ⟨by have := HJ6.out; have := HJ10.out; have := HK3.out; have := HJ12.out; first | omega | exact Nat.le_refl _⟩, ⟨by (with_reducible repeat (first | apply Kd.S_alloc | apply Kd.S_drewN | apply Kd.S_drew)); exact Kd.S_mono (Kd.S_far (p := ⟨gb105, 3, none⟩) (Kd.S_far (p := ⟨gb105, 2, none⟩) (Kd.S_far (p := ⟨gb105, 1, none⟩) (Kd.S_far (p := ⟨gb105, 0, none⟩) (Kd.S_mono HO_9.out (fun k_ hk => (⟨hk, (by first | exact hk.2 | (have hq_ := hk; simp only [ne_eq] at hq_ ⊢; simp only [hq_, not_false_eq_true, and_self]))⟩ : _ ∧ k_ ≠ gb105))) (fun _ hk => hk.2) (.int .i64 9)) (fun _ hk => hk.2) (.int .i64 0)) (fun _ hk => hk.2) (.int .i64 a0)) (fun _ hk => hk.2) (.slice none 0 0)) (fun _ hk => (by first | exact hk.1.2 | (have hq_ := hk; simp only [ne_eq] at hq_ ⊢; simp only [hq_, not_false_eq_true, and_self])))⟩, ⟨by (with_reducible repeat (first | refine blk_drewN ?_ _ | refine blk_drew ?_ | refine blk_alloc ?_ _)); refine blk_put (cs := #[.int .i64 9, .int .i64 0, .int .i64 a0, .slice none 0 0]) ?_ 3 _ rfl; (with_reducible repeat (first | refine blk_drewN ?_ _ | refine blk_drew ?_ | refine blk_alloc ?_ _)); refine blk_put (cs := #[.int .i64 9, .int .i64 0, .int .i64 0, .slice none 0 0]) ?_ 2 _ rfl; (with_reducible repeat (first | refine blk_drewN ?_ _ | refine blk_drew ?_ | refine blk_alloc ?_ _)); refine blk_put (cs := #[.int .i64 9, .int .i64 0, .int .i64 0, .slice none 0 0]) ?_ 1 _ rfl; (with_reducible repeat (first | refine blk_drewN ?_ _ | refine blk_drew ?_ | refine blk_alloc ?_ _)); refine blk_put (cs := #[.int .i64 0, .int .i64 0, .int .i64 0, .slice none 0 0]) ?_ 0 _ rfl; (with_reducible repeat (first | refine blk_drewN ?_ _ | refine blk_drew ?_ | refine blk_alloc ?_ _)); exact BK105.out⟩, ⟨by repeat (first | (with_reducible first | exact HB.out | apply below_alloc | apply pw_below_drewN | apply below_drew1 | refine below_set ?_ GE105.out) | exact HB.out)⟩⟩
           case rest =>
            clear HC16
            try clear c1
            try clear c2
            try clear p2
            try clear c5
            try clear c6
            try clear c10
            try clear c10b0
            try clear c10b1
            try clear c12
            try clear c12b0
            try clear c12b1
            try clear c14
            try clear c14b0
            try clear c14b1
            try clear c15
            try clear c17
            try clear c19
            try clear c19b0
            try clear c19b1
            try clear c20
            try clear hcz18_0
            try clear hcz18_1
            try clear hcz18_2
            try clear hcz18_3
            try clear hcz21_0
            try clear hcz21_1
            try clear hcz21_2
            try clear hcz21_3
            try clear hcz22_0
            try clear hcz22_1
            try clear hcz22_2
            try clear hcz22_3
            try clear hfz18_0
            try clear hfz18_1
            try clear hfz18_2
            try clear hfz18_3
            try clear hfz21_0
            try clear hfz21_1
            try clear hfz21_2
            try clear hfz21_3
            try clear hfz22_0
            try clear hfz22_1
            try clear hfz22_2
            try clear hfz22_3
            try clear p2
            obtain ⟨kq, x106000_15, x106001_15, HA, HJ15, HO_9, BK105, HB⟩ := hcut
            cases kq with
            | zero => exact absurd HA.out (by simp [spec_Part.j4])
            | succ kj15 =>
             have H := HA.out
             clear HA
             simp only [spec_Part.j4] at H
             by_cases c23 : (wrap64 (x10_3 + x3_10)) ≥ (l2.length : Int)
             ·
              rw [if_pos c23] at H
              have c23b0 : decide ((l2.length : Int) ≤ (wrap64 (x10_3 + x3_10))) = true := decide_eq_true c23
              clear c23
              obtain ⟨y106, hy106⟩ : ∃ y_ : List Int, y_ = (([] : List Int)) := ⟨_, rfl⟩
              replace H : (if 0 ≤ x10_3 then (if x10_3 ≤ (l2.length : Int) then (if (l2.length : Int) ≤ (l2.length : Int) then ((some ((l2.take ((l2.length : Int) : Int).toNat).drop (x10_3 : Int).toNat : List Int)).bind fun y109 => (if y106.length + y109.length < 140737488355328 then (if x9_3.length < 2932031007402 then (spec_Part.l0 kj15 a0 a1 l2 x3_10 (x9_3 ++ [(⟨x106000_15, Go.bits .or .i64 x106001_15 4, a0, (y106 ++ y109)⟩ : S59)]) (wrap64 (x10_3 + x3_10))) else (none)) else (none))) else (none)) else (none)) else (none)) = some r := by first | (rw [hy106]; with_reducible exact H) | (have H2_ := (Option.bind_some _ _).symm.trans H; rw [hy106]; with_reducible exact H2_) | (have H2_ := (Option.bind_some _ _).symm.trans H; with_reducible exact H2_) | with_reducible exact H | (rw [hy106]; exact H) | exact H
              have Ny106 := Aside0.mk hy106
              clear hy106
              by_cases c24 : 0 ≤ x10_3
              ·
               rw [if_pos c24] at H
               have c24b0 := eq_true c24
               have c24b1 : decide (0 ≤ x10_3) = true := decide_eq_true c24
               clear c24
               by_cases c25 : x10_3 ≤ (l2.length : Int)
               ·
                rw [if_pos c25] at H
                have c25b0 := eq_true c25
                have c25b1 : decide (x10_3 ≤ (l2.length : Int)) = true := decide_eq_true c25
                clear c25
                by_cases c26 : (l2.length : Int) ≤ (l2.length : Int)
                ·
                 rw [if_pos c26] at H
                 have c26b0 := eq_true c26
                 have c26b1 : decide ((l2.length : Int) ≤ (l2.length : Int)) = true := decide_eq_true c26
                 clear c26
                 obtain ⟨y109, hy109⟩ : ∃ y_ : List Int, y_ = ((l2.take ((l2.length : Int) : Int).toNat).drop (x10_3 : Int).toNat) := ⟨_, rfl⟩
                 replace H : (if y106.length + y109.length < 140737488355328 then (if x9_3.length < 2932031007402 then (spec_Part.l0 kj15 a0 a1 l2 x3_10 (x9_3 ++ [(⟨x106000_15, Go.bits .or .i64 x106001_15 4, a0, (y106 ++ y109)⟩ : S59)]) (wrap64 (x10_3 + x3_10))) else (none)) else (none)) = some r := by first | (rw [hy109]; with_reducible exact H) | (have H2_ := (Option.bind_some _ _).symm.trans H; rw [hy109]; with_reducible exact H2_) | (have H2_ := (Option.bind_some _ _).symm.trans H; with_reducible exact H2_) | with_reducible exact H | (rw [hy109]; exact H) | exact H
                 have Ny109 := Aside0.mk hy109
                 clear hy109
                 by_cases c27 : y106.length + y109.length < 140737488355328
                 ·
                  rw [if_pos c27] at H
                  have LMc27 := Aside0.mk c27
                  clear c27
                  obtain ⟨y113, hy113⟩ : ∃ y_ : List Int, y_ = (y106 ++ y109) := ⟨_, rfl⟩
                  replace H : (if x9_3.length < 2932031007402 then (spec_Part.l0 kj15 a0 a1 l2 x3_10 (x9_3 ++ [(⟨x106000_15, Go.bits .or .i64 x106001_15 4, a0, y113⟩ : S59)]) (wrap64 (x10_3 + x3_10))) else (none)) = some r := by first | (rw [hy113]; with_reducible exact H) | (have H2_ := (Option.bind_some _ _).symm.trans H; rw [hy113]; with_reducible exact H2_) | (have H2_ := (Option.bind_some _ _).symm.trans H; with_reducible exact H2_) | with_reducible exact H | (rw [hy113]; exact H) | exact H
                  have Ny113 := Aside0.mk hy113
                  clear hy113
                  by_cases c28 : x9_3.length < 2932031007402
                  ·
                   rw [if_pos c28] at H
                   have LMc28 := Aside0.mk c28
                   clear c28
                   obtain ⟨y116, hy116⟩ : ∃ y_ : List (S59), y_ = (x9_3 ++ [(⟨x106000_15, Go.bits .or .i64 x106001_15 4, a0, y113⟩ : S59)]) := ⟨_, rfl⟩
                   replace H : (spec_Part.l0 kj15 a0 a1 l2 x3_10 y116 (wrap64 (x10_3 + x3_10))) = some r := by first | (rw [hy116]; with_reducible exact H) | (have H2_ := (Option.bind_some _ _).symm.trans H; rw [hy116]; with_reducible exact H2_) | (have H2_ := (Option.bind_some _ _).symm.trans H; with_reducible exact H2_) | with_reducible exact H | (rw [hy116]; exact H) | exact H
                   have Ny116 := Aside0.mk hy116
                   clear hy116
                   have H' := Aside0.mk H
                   clear H
                   have hcz29_0 : wc.cell? ⟨gb105, 0, none⟩ = some (.int .i64 x106000_15) := (blk_cell BK105.out 0).trans rfl
                   have hcz29_1 : wc.cell? ⟨gb105, 1, none⟩ = some (.int .i64 x106001_15) := (blk_cell BK105.out 1).trans rfl
                   have hcz29_2 : wc.cell? ⟨gb105, 2, none⟩ = some (.int .i64 a0) := (blk_cell BK105.out 2).trans rfl
                   have hcz29_3 : wc.cell? ⟨gb105, 3, none⟩ = some (.slice none 0 0) := (blk_cell BK105.out 3).trans rfl
                   have hfz29_0 := blk_frozen BK105.out 0
                   have hfz29_1 := blk_frozen BK105.out 1
                   have hfz29_2 := blk_frozen BK105.out 2
                   have hfz29_3 := blk_frozen BK105.out 3
                   go_wp2_with (first | ((with_reducible refine gate_dst (N := 53) rfl ?_); (try (refine gate_guard (by rfl) ?_; dsimp only)); refine Kd.R_lit (Kd.int .u8) _ 5 ?hg (N := 53) ?hd (xs := ([] : List Int)) (inner := []) (ok := fun _ => True) (okp := fun _ => True) ?hr ?hp (fun _ hk => hk) trivial (Below.refl _ _) (Nat.le_refl _) (by simp) ?_; (case hd => rfl); (case hg => rfl); (case hr => first | (go_simp; done) | (go_simp; rfl)); (case hp => exact (Reps.none _ _)); intro v107 w30 ho31 hb hg_ hnew_; clear hg_ hnew_; (first | rw [← Ny106.out] at ho31 | (simp only [Int.reduceToNat] at ho31; rw [← Ny106.out] at ho31)); have n0_ := Aside0.mk (Kd.S_elder' (by (with_reducible repeat (first | apply Kd.S_alloc | apply Kd.S_drewN | apply Kd.S_drew)); exact (Kd.S_mono (Kd.S_far (p := ⟨gb105, 1, none⟩) (Kd.S_mono HO_9.out (fun k_ hk => (⟨hk, hk⟩ : _ ∧ k_ ≠ gb105))) (fun _ hk => hk.2) (.int .i64 (Go.bits .or .i64 x106001_15 4))) (fun _ h_ => h_.1))) (Kd.R_base ho31) hb); have n1_ := Aside0.mk (Kd.R_lower ho31 (below_size (by repeat (first | (with_reducible first | exact HB.out | apply below_alloc | apply pw_below_drewN | apply below_drew1 | refine below_set ?_ GE105.out) | exact HB.out)))); have n2_ := Aside0.mk (blk_below (g := gb105) (o := .cells #[.int .i64 x106000_15, .int .i64 (Go.bits .or .i64 x106001_15 4), .int .i64 a0, .slice none 0 0] 59 (0, 0)) (by (with_reducible repeat (first | refine blk_drewN ?_ _ | refine blk_drew ?_ | refine blk_alloc ?_ _)); refine blk_put (cs := #[.int .i64 x106000_15, .int .i64 x106001_15, .int .i64 a0, .slice none 0 0]) ?_ 1 _ rfl; (with_reducible repeat (first | refine blk_drewN ?_ _ | refine blk_drew ?_ | refine blk_alloc ?_ _)); exact BK105.out) hb); have n3_ := Aside0.mk (below_step (by repeat (first | (with_reducible first | exact HB.out | apply below_alloc | apply pw_below_drewN | apply below_drew1 | refine below_set ?_ GE105.out) | exact HB.out)) hb); clear HO_9; clear BK105; clear HB; have HO_9 := n0_; have HO108 := n1_; have BK105 := n2_; have HB := n3_; clear n0_ n1_ n2_ n3_; clear hb ho31; have q32 : ((l2.length : Int) : Int) ≤ ((l2.length : Int) : Int) := of_decide_eq_true (by first | (with_reducible assumption) | assumption); obtain ⟨i032, hi032, _, hsz32, _⟩ := info_parts info5; have hroom32 : l2.length ≤ c2 := HC2.out; have hC32 : Kd.C (Kd.int .u8) _ A2 l2.length l2 := HR2.out; have ql32 : (x10_3 : Int) ≤ ((l2.length : Int) : Int) := of_decide_eq_true (by first | (with_reducible assumption) | assumption); have q032 : (0 : Int) ≤ (x10_3 : Int) := of_decide_eq_true (by first | (with_reducible assumption) | assumption); have hcut32 := cut_mid (P := Try.prog) 22 5 .i64 .i64 Try.underlying22 hi032 1 hsz32 A2 l2.length c2 x10_3 (l2.length : Int) q032 ql32 q32 hroom32; have hr32 := Kd.C_mid (lo := (x10_3 : Int).toNat) (hi := ((l2.length : Int) : Int).toNat) (c := c2) hC32 (by omega) (by omega) hroom32; obtain ⟨A32, hA32⟩ : ∃ A1, A1 = (if c2 = (x10_3 : Int).toNat then A2 else (A2 : Option Addr).map (·.add ((x10_3 : Int).toNat * 1))) := ⟨_, rfl⟩; obtain ⟨c32, hc32⟩ : ∃ c1, c1 = c2 - (x10_3 : Int).toNat := ⟨_, rfl⟩; have hy32 : y109.length = ((l2.length : Int) : Int).toNat - (x10_3 : Int).toNat := (by rw [Ny109.out, List.length_drop, List.length_take] <;> omega); rw [show ((l2).take ((l2.length : Int) : Int).toNat).drop (x10_3 : Int).toNat = y109 from Ny109.out.symm] at hr32; replace hr32 : Kd.C (Kd.int .u8) _ A32 y109.length y109 := (by rw [hA32]; exact hr32); rw [← hy32, ← hA32, ← hc32] at hcut32; have HR112 := Aside0.mk hr32; have HC112 := Aside0.mk (show y109.length ≤ c32 from by rw [hy32, hc32]; exact Nat.sub_le_sub_right (Nat.le_trans (by omega) hroom32) _); clear hr32 hC32 hroom32 hi032 hsz32 hc32; have KY32 := Aside0.mk hy32; have KA32 := Aside0.mk hA32; clear hy32 hA32; replace q32 := eq_true q32) | ((with_reducible refine gate_builtin (b := .append) (xs := #[.tmp 53, .tmp 57]) rfl ?_); (try (refine gate_guard (by rfl) ?_; dsimp only)); at_builtin; refine Kd.R_append_rows (Kd.int .u8) (w0 := w) w.heap.size rfl (.tmp 53) (.tmp 57) 22 5 (.int .u8 0) 1 rfl Try.underlying22 info5 rfl (by decide) (by omega) v107 y106 y109 _ _ _ (fun _ => True) (fun _ => False) rfl rfl ?aO ?aR (fun _ _ h => h) (fun _ h => h.elim) ?aF ?aB ?aS ?aL ?_; (case aR => repeat (first | exact (Kd.C_below HR112.out HB.out) | (with_reducible refine Kd.C_alloc ?_ _) | (with_reducible refine Kd.C_drewN ?_ _) | (with_reducible refine Kd.C_drew ?_))); (case aB => exact (by repeat (first | (with_reducible first | exact HB.out | apply below_alloc | apply pw_below_drewN | apply below_drew1 | refine below_set ?_ GE105.out) | exact HB.out))); (case aF => exact (fun _ _ => trivial)); (case aO => exact (by (with_reducible repeat (first | apply Kd.R_alloc | apply Kd.R_drewN | apply Kd.R_drew)); exact HO108.out)); (case aS => exact (below_size (by repeat (first | (with_reducible first | exact HB.out | apply below_alloc | apply pw_below_drewN | apply below_drew1 | refine below_set ?_ GE105.out) | exact HB.out)))); (case aL => have := LMc27.out; omega); intro v114 w33 ho hb hg hat; (first | (with_reducible rw [← Ny113.out] at ho) | (simp only [Int.reduceToNat] at ho; with_reducible rw [← Ny113.out] at ho) | rw [← Ny113.out] at ho); have n0_ := Aside0.mk (Kd.S_after (ok := (fun k_ => k_ ≠ gb105)) (by (with_reducible repeat (first | apply Kd.S_alloc | apply Kd.S_drewN | apply Kd.S_drew)); exact HO_9.out) hg hat); have n1_ := Aside0.mk (blk_grown (g := gb105) (o := .cells #[.int .i64 x106000_15, .int .i64 (Go.bits .or .i64 x106001_15 4), .int .i64 a0, .slice none 0 0] 59 (0, 0)) (by (with_reducible repeat (first | refine blk_drewN ?_ _ | refine blk_drew ?_ | refine blk_alloc ?_ _)); exact BK105.out) hg (Kd.R_ne HO108.out BK105.out (by decide))); have n2_ := Aside0.mk (hb); have n3_ := Aside0.mk (ho); clear HO_9; clear BK105; clear HB; clear HO108; have HO_9 := n0_; have BK105 := n1_; have HB := n2_; have HO115 := n3_; clear n0_ n1_ n2_ n3_; clear ho hb hg hat; obtain ⟨Ao34, co34, eo34⟩ := Kd.R_slice HO115.out; subst eo34; have hcz35_0 : w33.cell? ⟨gb105, 0, none⟩ = some (.int .i64 x106000_15) := (blk_cell BK105.out 0).trans rfl; have hcz35_1 : w33.cell? ⟨gb105, 1, none⟩ = some (.int .i64 (Go.bits .or .i64 x106001_15 4)) := (blk_cell BK105.out 1).trans rfl; have hcz35_2 : w33.cell? ⟨gb105, 2, none⟩ = some (.int .i64 a0) := (blk_cell BK105.out 2).trans rfl; have hcz35_3 : w33.cell? ⟨gb105, 3, none⟩ = some (.slice none 0 0) := (blk_cell BK105.out 3).trans rfl; have hfz35_0 := blk_frozen BK105.out 0; have hfz35_1 := blk_frozen BK105.out 1; have hfz35_2 := blk_frozen BK105.out 2; have hfz35_3 := blk_frozen BK105.out 3) | ((with_reducible refine gate_store (t := 22) (p := 59) rfl ?_); refine store_event (t := 22) (p := 59) (v := ?vo_w36) (w1 := (w33.setCell ⟨gb105, 3, none⟩ (.slice Ao34 y113.length co34))) ?hg ?ho ?hn ?hr ?_; (case ho => rfl); (case hg => rfl); (case hn => rfl); (case hr => first | (go_simp; done) | (go_simp; rfl)); intro w36 hw; have n0_ : Aside0 (Kd.S k59 59 w36 w.heap.size (fun k_ => some k_ ≠ (.slice Ao34 y113.length co34 : Value).ownBlock ∧ k_ ≠ gb105) u9 x9_3) := ⟨(by rw [hw]; exact (by (with_reducible repeat (first | apply Kd.S_alloc | apply Kd.S_drewN | apply Kd.S_drew)); exact Kd.S_mono (Kd.S_far (p := ⟨gb105, 3, none⟩) (Kd.S_mono HO_9.out (fun k_ hk => (⟨hk, (by first | exact hk.1 | (have hq_ := hk; simp only [ne_eq] at hq_ ⊢; simp only [hq_, not_false_eq_true, and_self]))⟩ : _ ∧ k_ ≠ gb105))) (fun _ hk => hk.2) (.slice Ao34 y113.length co34)) (fun _ hk => ⟨(by first | exact hk.1.2 | (have hq_ := hk; simp only [ne_eq] at hq_ ⊢; simp only [hq_, not_false_eq_true, and_self])), (by first | exact hk.1.1 | (have hq_ := hk; simp only [ne_eq] at hq_ ⊢; simp only [hq_, not_false_eq_true, and_self]))⟩)))⟩; have n1_ : Aside0 (Kd.R (Kd.int .u8) 5 w36 w.heap.size (fun _ => True) (.slice Ao34 y113.length co34) y113) := ⟨(by rw [hw]; exact (by (with_reducible repeat (first | apply Kd.R_alloc | apply Kd.R_drewN | apply Kd.R_drew)); exact Kd.R_mono (Kd.R_far (p := ⟨gb105, 3, none⟩) (Kd.R_types HO115.out BK105.out (by decide)) (fun _ hk => hk.2) (.slice Ao34 y113.length co34)) (fun _ hk => trivial)))⟩; have n2_ : Aside0 (w36.heap[gb105]? = some (.cells #[.int .i64 x106000_15, .int .i64 (Go.bits .or .i64 x106001_15 4), .int .i64 a0, .slice Ao34 y113.length co34] 59 (0, 0))) := ⟨(by rw [hw]; exact (by (with_reducible repeat (first | refine blk_drewN ?_ _ | refine blk_drew ?_ | refine blk_alloc ?_ _)); refine blk_put (cs := #[.int .i64 x106000_15, .int .i64 (Go.bits .or .i64 x106001_15 4), .int .i64 a0, .slice none 0 0]) ?_ 3 _ rfl; (with_reducible repeat (first | refine blk_drewN ?_ _ | refine blk_drew ?_ | refine blk_alloc ?_ _)); exact BK105.out))⟩; have n3_ : Aside0 (Below w.heap.size w w36) := ⟨(by rw [hw]; exact (by repeat (first | (with_reducible first | exact HB.out | apply below_alloc | apply pw_below_drewN | apply below_drew1 | refine below_set ?_ GE105.out) | exact HB.out)))⟩; clear hw; clear HO_9; clear HO115; clear BK105; clear HB; have HO_9 := n0_; have HO115 := n1_; have BK105 := n2_; have HB := n3_; clear n0_ n1_ n2_ n3_; have hcz37_0 : w36.cell? ⟨gb105, 0, none⟩ = some (.int .i64 x106000_15) := (blk_cell BK105.out 0).trans rfl; have hcz37_1 : w36.cell? ⟨gb105, 1, none⟩ = some (.int .i64 (Go.bits .or .i64 x106001_15 4)) := (blk_cell BK105.out 1).trans rfl; have hcz37_2 : w36.cell? ⟨gb105, 2, none⟩ = some (.int .i64 a0) := (blk_cell BK105.out 2).trans rfl; have hcz37_3 : w36.cell? ⟨gb105, 3, none⟩ = some (.slice Ao34 y113.length co34) := (blk_cell BK105.out 3).trans rfl; have hfz37_0 := blk_frozen BK105.out 0; have hfz37_1 := blk_frozen BK105.out 1; have hfz37_2 := blk_frozen BK105.out 2; have hfz37_3 := blk_frozen BK105.out 3) | ((with_reducible refine gate_builtin (b := .append) (xs := #[.tmp 60, .tmp 62]) rfl ?_); (try (refine gate_guard (by rfl) ?_; dsimp only)); at_builtin; refine Kd.S_append k59 (w0 := w) w.heap.size rfl (.tmp 60) (.tmp 62) 35 59 (.agg #[(.int .i64 0), (.int .i64 0), (.int .i64 0), (.slice none 0 0)]) 48 rfl Try.underlying35 info59 rfl (by decide) (by omega) u9 x9_3 (⟨x106000_15, Go.bits .or .i64 x106001_15 4, a0, y113⟩ : S59) [.int .i64 x106000_15, .int .i64 (Go.bits .or .i64 x106001_15 4), .int .i64 a0, .slice Ao34 y113.length co34] (fun k_ => k_ ≠ gb105) (fun k_ => some k_ = (.slice Ao34 y113.length co34 : Value).ownBlock) rfl rfl ?aP (fun k_ hk_ => ((Kd.R_mono (ok' := fun k_ => ((fun k_ => k_ ≠ gb105)) k_ ∧ some k_ ≠ (u9 : Value).ownBlock) (Kd.R_types (Kd.R_apart' (HO115.out) (Kd.S_typed HO_9.out) (by decide)) BK105.out (by decide)) (fun k_ hk => ⟨(by first | exact hk.2 | (have hq_ := hk; simp only [ne_eq] at hq_ ⊢; simp only [hq_, not_false_eq_true, and_self])), (by first | exact hk.1.2 | (have hq_ := hk; simp only [ne_eq] at hq_ ⊢; simp only [hq_, not_false_eq_true, and_self]))⟩))).1 k_ hk_.symm) ?aF ?aO ?aB ?aS ?aL ?_; (case aP => exact k59_mkM _ _ _ (⟨x106000_15, Go.bits .or .i64 x106001_15 4, a0, y113⟩ : S59) (Kd.R_mono (Kd.R_tight rfl (Kd.R_mono (ok' := fun k_ => ((fun k_ => k_ ≠ gb105)) k_ ∧ some k_ ≠ (u9 : Value).ownBlock) (Kd.R_types (Kd.R_apart' (HO115.out) (Kd.S_typed HO_9.out) (by decide)) BK105.out (by decide)) (fun k_ hk => ⟨(by first | exact hk.2 | (have hq_ := hk; simp only [ne_eq] at hq_ ⊢; simp only [hq_, not_false_eq_true, and_self])), (by first | exact hk.1.2 | (have hq_ := hk; simp only [ne_eq] at hq_ ⊢; simp only [hq_, not_false_eq_true, and_self]))⟩))) (fun _ h_ => h_))); (case aB => exact (by repeat (first | (with_reducible first | exact HB.out | apply below_alloc | apply pw_below_drewN | apply below_drew1 | refine below_set ?_ GE105.out) | exact HB.out))); (case aF => exact (fun k_ hk => Kd.freshB (g := gb105) (o := .cells #[.int .i64 x106000_15, .int .i64 (Go.bits .or .i64 x106001_15 4), .int .i64 a0, .slice Ao34 y113.length co34] 59 (0, 0)) (by (with_reducible repeat (first | refine blk_drewN ?_ _ | refine blk_drew ?_ | refine blk_alloc ?_ _)); exact BK105.out) k_ hk)); (case aO => exact (by (with_reducible repeat (first | apply Kd.S_alloc | apply Kd.S_drewN | apply Kd.S_drew)); exact Kd.S_mono HO_9.out (fun k_ hk => ⟨(by first | exact hk.2 | (have hq_ := hk; simp only [ne_eq] at hq_ ⊢; simp only [hq_, not_false_eq_true, and_self])), fun e_ => absurd e_ (by first | exact hk.1 | (have hq_ := hk; simp only [ne_eq] at hq_ ⊢; simp only [hq_, not_false_eq_true, and_self]))⟩))); (case aS => exact (below_size (by repeat (first | (with_reducible first | exact HB.out | apply below_alloc | apply pw_below_drewN | apply below_drew1 | refine below_set ?_ GE105.out) | exact HB.out)))); (case aL => have := LMc28.out; omega); intro v117 w38 ho hb hg hat; (first | (with_reducible rw [← Ny116.out] at ho) | (simp only [Int.reduceToNat] at ho; with_reducible rw [← Ny116.out] at ho) | rw [← Ny116.out] at ho); have n0_ := Aside0.mk (blk_grown (g := gb105) (o := .cells #[.int .i64 x106000_15, .int .i64 (Go.bits .or .i64 x106001_15 4), .int .i64 a0, .slice Ao34 y113.length co34] 59 (0, 0)) (by (with_reducible repeat (first | refine blk_drewN ?_ _ | refine blk_drew ?_ | refine blk_alloc ?_ _)); exact BK105.out) hg (Kd.S_away HO_9.out (fun _ hk => (by first | exact hk.2 | (have hq_ := hk; simp only [ne_eq] at hq_ ⊢; simp only [hq_, not_false_eq_true, and_self]))))); have n1_ := Aside0.mk (hb); have n2_ := Aside0.mk (ho); clear BK105; clear HB; clear HO_9; clear HO115; have BK105 := n0_; have HB := n1_; have HO118 := n2_; clear n0_ n1_ n2_; clear ho hb hg hat))
                   go_roundg kj15
                   case measure => have := HJ6.out; have := HJ10.out; have := HK3.out; have := HJ12.out; have := HJ15.out; omega
                   case rel => exact ⟨(y116), (wrap64 (x10_3 + x3_10)), (by first | rfl | (simp; done) | (simp [*]; done)), H', ⟨by have := HJ6.out; have := HJ10.out; have := HK3.out; have := HJ12.out; have := HJ15.out; omega⟩, ⟨by (with_reducible repeat (first | apply Kd.S_alloc | apply Kd.S_drewN | apply Kd.S_drew)); exact Kd.S_mono HO118.out (fun _ hk => trivial)⟩, ⟨by repeat (first | (with_reducible first | exact HB.out | apply below_alloc | apply pw_below_drewN | apply below_drew1 | refine below_set ?_ GE105.out) | exact HB.out)⟩⟩
                  ·
                   rw [if_neg c28] at H
                   exact absurd H (by simp)
                 ·
                  rw [if_neg c27] at H
                  exact absurd H (by simp)
                ·
                 rw [if_neg c26] at H
                 exact absurd H (by simp)
               ·
                rw [if_neg c25] at H
                exact absurd H (by simp)
              ·
               rw [if_neg c24] at H
               exact absurd H (by simp)
             ·
              rw [if_neg c23] at H
              have c23b0 : decide ((l2.length : Int) ≤ (wrap64 (x10_3 + x3_10))) = false := decide_eq_false c23
              clear c23
              obtain ⟨y119, hy119⟩ : ∃ y_ : List Int, y_ = (([] : List Int)) := ⟨_, rfl⟩
              replace H : (if 0 ≤ x10_3 then (if x10_3 ≤ (wrap64 (x10_3 + x3_10)) then (if (wrap64 (x10_3 + x3_10)) ≤ (l2.length : Int) then ((some ((l2.take ((wrap64 (x10_3 + x3_10)) : Int).toNat).drop (x10_3 : Int).toNat : List Int)).bind fun y122 => (if y119.length + y122.length < 140737488355328 then (if x9_3.length < 2932031007402 then (spec_Part.l0 kj15 a0 a1 l2 x3_10 (x9_3 ++ [(⟨x106000_15, x106001_15, a0, (y119 ++ y122)⟩ : S59)]) (wrap64 (x10_3 + x3_10))) else (none)) else (none))) else (none)) else (none)) else (none)) = some r := by first | (rw [hy119]; with_reducible exact H) | (have H2_ := (Option.bind_some _ _).symm.trans H; rw [hy119]; with_reducible exact H2_) | (have H2_ := (Option.bind_some _ _).symm.trans H; with_reducible exact H2_) | with_reducible exact H | (rw [hy119]; exact H) | exact H
              have Ny119 := Aside0.mk hy119
              clear hy119
              by_cases c39 : 0 ≤ x10_3
              ·
               rw [if_pos c39] at H
               have c39b0 := eq_true c39
               have c39b1 : decide (0 ≤ x10_3) = true := decide_eq_true c39
               clear c39
               by_cases c40 : x10_3 ≤ (wrap64 (x10_3 + x3_10))
               ·
                rw [if_pos c40] at H
                have c40b0 := eq_true c40
                have c40b1 : decide (x10_3 ≤ (wrap64 (x10_3 + x3_10))) = true := decide_eq_true c40
                by_cases c41 : (wrap64 (x10_3 + x3_10)) ≤ (l2.length : Int)
                ·
                 rw [if_pos c41] at H
                 have c41b0 := eq_true c41
                 have c41b1 : decide ((wrap64 (x10_3 + x3_10)) ≤ (l2.length : Int)) = true := decide_eq_true c41
                 obtain ⟨y122, hy122⟩ : ∃ y_ : List Int, y_ = ((l2.take ((wrap64 (x10_3 + x3_10)) : Int).toNat).drop (x10_3 : Int).toNat) := ⟨_, rfl⟩
                 replace H : (if y119.length + y122.length < 140737488355328 then (if x9_3.length < 2932031007402 then (spec_Part.l0 kj15 a0 a1 l2 x3_10 (x9_3 ++ [(⟨x106000_15, x106001_15, a0, (y119 ++ y122)⟩ : S59)]) (wrap64 (x10_3 + x3_10))) else (none)) else (none)) = some r := by first | (rw [hy122]; with_reducible exact H) | (have H2_ := (Option.bind_some _ _).symm.trans H; rw [hy122]; with_reducible exact H2_) | (have H2_ := (Option.bind_some _ _).symm.trans H; with_reducible exact H2_) | with_reducible exact H | (rw [hy122]; exact H) | exact H
                 have Ny122 := Aside0.mk hy122
                 clear hy122
                 by_cases c42 : y119.length + y122.length < 140737488355328
                 ·
                  rw [if_pos c42] at H
                  have LMc42 := Aside0.mk c42
                  clear c42
                  obtain ⟨y126, hy126⟩ : ∃ y_ : List Int, y_ = (y119 ++ y122) := ⟨_, rfl⟩
                  replace H : (if x9_3.length < 2932031007402 then (spec_Part.l0 kj15 a0 a1 l2 x3_10 (x9_3 ++ [(⟨x106000_15, x106001_15, a0, y126⟩ : S59)]) (wrap64 (x10_3 + x3_10))) else (none)) = some r := by first | (rw [hy126]; with_reducible exact H) | (have H2_ := (Option.bind_some _ _).symm.trans H; rw [hy126]; with_reducible exact H2_) | (have H2_ := (Option.bind_some _ _).symm.trans H; with_reducible exact H2_) | with_reducible exact H | (rw [hy126]; exact H) | exact H
                  have Ny126 := Aside0.mk hy126
                  clear hy126
                  by_cases c43 : x9_3.length < 2932031007402
                  ·
                   rw [if_pos c43] at H
                   have LMc43 := Aside0.mk c43
                   clear c43
                   obtain ⟨y129, hy129⟩ : ∃ y_ : List (S59), y_ = (x9_3 ++ [(⟨x106000_15, x106001_15, a0, y126⟩ : S59)]) := ⟨_, rfl⟩
                   replace H : (spec_Part.l0 kj15 a0 a1 l2 x3_10 y129 (wrap64 (x10_3 + x3_10))) = some r := by first | (rw [hy129]; with_reducible exact H) | (have H2_ := (Option.bind_some _ _).symm.trans H; rw [hy129]; with_reducible exact H2_) | (have H2_ := (Option.bind_some _ _).symm.trans H; with_reducible exact H2_) | with_reducible exact H | (rw [hy129]; exact H) | exact H
                   have Ny129 := Aside0.mk hy129
                   clear hy129
                   have H' := Aside0.mk H
                   clear H
                   go_wp2_with (first | ((with_reducible refine gate_dst (N := 53) rfl ?_); (try (refine gate_guard (by rfl) ?_; dsimp only)); refine Kd.R_lit (Kd.int .u8) _ 5 ?hg (N := 53) ?hd (xs := ([] : List Int)) (inner := []) (ok := fun _ => True) (okp := fun _ => True) ?hr ?hp (fun _ hk => hk) trivial (Below.refl _ _) (Nat.le_refl _) (by simp) ?_; (case hd => rfl); (case hg => rfl); (case hr => first | (go_simp; done) | (go_simp; rfl)); (case hp => exact (Reps.none _ _)); intro v120 w44 ho45 hb hg_ hnew_; clear hg_ hnew_; (first | rw [← Ny119.out] at ho45 | (simp only [Int.reduceToNat] at ho45; rw [← Ny119.out] at ho45)); have n0_ := Aside0.mk (Kd.S_elder' (by (with_reducible repeat (first | apply Kd.S_alloc | apply Kd.S_drewN | apply Kd.S_drew)); exact HO_9.out) (Kd.R_base ho45) hb); have n1_ := Aside0.mk (Kd.R_lower ho45 (below_size (by repeat (first | (with_reducible first | exact HB.out | apply below_alloc | apply pw_below_drewN | apply below_drew1 | refine below_set ?_ GE105.out) | exact HB.out)))); have n2_ := Aside0.mk (blk_below (g := gb105) (o := .cells #[.int .i64 x106000_15, .int .i64 x106001_15, .int .i64 a0, .slice none 0 0] 59 (0, 0)) (by (with_reducible repeat (first | refine blk_drewN ?_ _ | refine blk_drew ?_ | refine blk_alloc ?_ _)); exact BK105.out) hb); have n3_ := Aside0.mk (below_step (by repeat (first | (with_reducible first | exact HB.out | apply below_alloc | apply pw_below_drewN | apply below_drew1 | refine below_set ?_ GE105.out) | exact HB.out)) hb); clear HO_9; clear BK105; clear HB; have HO_9 := n0_; have HO121 := n1_; have BK105 := n2_; have HB := n3_; clear n0_ n1_ n2_ n3_; clear hb ho45; have q46 : ((wrap64 (x10_3 + x3_10)) : Int) ≤ ((l2.length : Int) : Int) := of_decide_eq_true (by first | (with_reducible assumption) | assumption); obtain ⟨i046, hi046, _, hsz46, _⟩ := info_parts info5; have hroom46 : l2.length ≤ c2 := HC2.out; have hC46 : Kd.C (Kd.int .u8) _ A2 l2.length l2 := HR2.out; have ql46 : (x10_3 : Int) ≤ ((wrap64 (x10_3 + x3_10)) : Int) := of_decide_eq_true (by first | (with_reducible assumption) | assumption); have q046 : (0 : Int) ≤ (x10_3 : Int) := of_decide_eq_true (by first | (with_reducible assumption) | assumption); have hcut46 := cut_mid (P := Try.prog) 22 5 .i64 .i64 Try.underlying22 hi046 1 hsz46 A2 l2.length c2 x10_3 (wrap64 (x10_3 + x3_10)) q046 ql46 q46 hroom46; have hr46 := Kd.C_mid (lo := (x10_3 : Int).toNat) (hi := ((wrap64 (x10_3 + x3_10)) : Int).toNat) (c := c2) hC46 (by omega) (by omega) hroom46; obtain ⟨A46, hA46⟩ : ∃ A1, A1 = (if c2 = (x10_3 : Int).toNat then A2 else (A2 : Option Addr).map (·.add ((x10_3 : Int).toNat * 1))) := ⟨_, rfl⟩; obtain ⟨c46, hc46⟩ : ∃ c1, c1 = c2 - (x10_3 : Int).toNat := ⟨_, rfl⟩; have hy46 : y122.length = ((wrap64 (x10_3 + x3_10)) : Int).toNat - (x10_3 : Int).toNat := (by rw [Ny122.out, List.length_drop, List.length_take] <;> omega); rw [show ((l2).take ((wrap64 (x10_3 + x3_10)) : Int).toNat).drop (x10_3 : Int).toNat = y122 from Ny122.out.symm] at hr46; replace hr46 : Kd.C (Kd.int .u8) _ A46 y122.length y122 := (by rw [hA46]; exact hr46); rw [← hy46, ← hA46, ← hc46] at hcut46; have HR125 := Aside0.mk hr46; have HC125 := Aside0.mk (show y122.length ≤ c46 from by rw [hy46, hc46]; exact Nat.sub_le_sub_right (Nat.le_trans (by omega) hroom46) _); clear hr46 hC46 hroom46 hi046 hsz46 hc46; have KY46 := Aside0.mk hy46; have KA46 := Aside0.mk hA46; clear hy46 hA46; replace q46 := eq_true q46) | ((with_reducible refine gate_builtin (b := .append) (xs := #[.tmp 53, .tmp 57]) rfl ?_); (try (refine gate_guard (by rfl) ?_; dsimp only)); at_builtin; refine Kd.R_append_rows (Kd.int .u8) (w0 := w) w.heap.size rfl (.tmp 53) (.tmp 57) 22 5 (.int .u8 0) 1 rfl Try.underlying22 info5 rfl (by decide) (by omega) v120 y119 y122 _ _ _ (fun _ => True) (fun _ => False) rfl rfl ?aO ?aR (fun _ _ h => h) (fun _ h => h.elim) ?aF ?aB ?aS ?aL ?_; (case aR => repeat (first | exact (Kd.C_below HR125.out HB.out) | (with_reducible refine Kd.C_alloc ?_ _) | (with_reducible refine Kd.C_drewN ?_ _) | (with_reducible refine Kd.C_drew ?_))); (case aB => exact (by repeat (first | (with_reducible first | exact HB.out | apply below_alloc | apply pw_below_drewN | apply below_drew1 | refine below_set ?_ GE105.out) | exact HB.out))); (case aF => exact (fun _ _ => trivial)); (case aO => exact (by (with_reducible repeat (first | apply Kd.R_alloc | apply Kd.R_drewN | apply Kd.R_drew)); exact HO121.out)); (case aS => exact (below_size (by repeat (first | (with_reducible first | exact HB.out | apply below_alloc | apply pw_below_drewN | apply below_drew1 | refine below_set ?_ GE105.out) | exact HB.out)))); (case aL => have := LMc42.out; omega); intro v127 w47 ho hb hg hat; (first | (with_reducible rw [← Ny126.out] at ho) | (simp only [Int.reduceToNat] at ho; with_reducible rw [← Ny126.out] at ho) | rw [← Ny126.out] at ho); have n0_ := Aside0.mk (Kd.S_after (ok := (fun k_ => k_ ≠ gb105)) (by (with_reducible repeat (first | apply Kd.S_alloc | apply Kd.S_drewN | apply Kd.S_drew)); exact HO_9.out) hg hat); have n1_ := Aside0.mk (blk_grown (g := gb105) (o := .cells #[.int .i64 x106000_15, .int .i64 x106001_15, .int .i64 a0, .slice none 0 0] 59 (0, 0)) (by (with_reducible repeat (first | refine blk_drewN ?_ _ | refine blk_drew ?_ | refine blk_alloc ?_ _)); exact BK105.out) hg (Kd.R_ne HO121.out BK105.out (by decide))); have n2_ := Aside0.mk (hb); have n3_ := Aside0.mk (ho); clear HO_9; clear BK105; clear HB; clear HO121; have HO_9 := n0_; have BK105 := n1_; have HB := n2_; have HO128 := n3_; clear n0_ n1_ n2_ n3_; clear ho hb hg hat; obtain ⟨Ao48, co48, eo48⟩ := Kd.R_slice HO128.out; subst eo48; have hcz49_0 : w47.cell? ⟨gb105, 0, none⟩ = some (.int .i64 x106000_15) := (blk_cell BK105.out 0).trans rfl; have hcz49_1 : w47.cell? ⟨gb105, 1, none⟩ = some (.int .i64 x106001_15) := (blk_cell BK105.out 1).trans rfl; have hcz49_2 : w47.cell? ⟨gb105, 2, none⟩ = some (.int .i64 a0) := (blk_cell BK105.out 2).trans rfl; have hcz49_3 : w47.cell? ⟨gb105, 3, none⟩ = some (.slice none 0 0) := (blk_cell BK105.out 3).trans rfl; have hfz49_0 := blk_frozen BK105.out 0; have hfz49_1 := blk_frozen BK105.out 1; have hfz49_2 := blk_frozen BK105.out 2; have hfz49_3 := blk_frozen BK105.out 3) | ((with_reducible refine gate_store (t := 22) (p := 59) rfl ?_); refine store_event (t := 22) (p := 59) (v := ?vo_w50) (w1 := (w47.setCell ⟨gb105, 3, none⟩ (.slice Ao48 y126.length co48))) ?hg ?ho ?hn ?hr ?_; (case ho => rfl); (case hg => rfl); (case hn => rfl); (case hr => first | (go_simp; done) | (go_simp; rfl)); intro w50 hw; have n0_ : Aside0 (Kd.S k59 59 w50 w.heap.size (fun k_ => some k_ ≠ (.slice Ao48 y126.length co48 : Value).ownBlock ∧ k_ ≠ gb105) u9 x9_3) := ⟨(by rw [hw]; exact (by (with_reducible repeat (first | apply Kd.S_alloc | apply Kd.S_drewN | apply Kd.S_drew)); exact Kd.S_mono (Kd.S_far (p := ⟨gb105, 3, none⟩) (Kd.S_mono HO_9.out (fun k_ hk => (⟨hk, (by first | exact hk.1 | (have hq_ := hk; simp only [ne_eq] at hq_ ⊢; simp only [hq_, not_false_eq_true, and_self]))⟩ : _ ∧ k_ ≠ gb105))) (fun _ hk => hk.2) (.slice Ao48 y126.length co48)) (fun _ hk => ⟨(by first | exact hk.1.2 | (have hq_ := hk; simp only [ne_eq] at hq_ ⊢; simp only [hq_, not_false_eq_true, and_self])), (by first | exact hk.1.1 | (have hq_ := hk; simp only [ne_eq] at hq_ ⊢; simp only [hq_, not_false_eq_true, and_self]))⟩)))⟩; have n1_ : Aside0 (Kd.R (Kd.int .u8) 5 w50 w.heap.size (fun _ => True) (.slice Ao48 y126.length co48) y126) := ⟨(by rw [hw]; exact (by (with_reducible repeat (first | apply Kd.R_alloc | apply Kd.R_drewN | apply Kd.R_drew)); exact Kd.R_mono (Kd.R_far (p := ⟨gb105, 3, none⟩) (Kd.R_types HO128.out BK105.out (by decide)) (fun _ hk => hk.2) (.slice Ao48 y126.length co48)) (fun _ hk => trivial)))⟩; have n2_ : Aside0 (w50.heap[gb105]? = some (.cells #[.int .i64 x106000_15, .int .i64 x106001_15, .int .i64 a0, .slice Ao48 y126.length co48] 59 (0, 0))) := ⟨(by rw [hw]; exact (by (with_reducible repeat (first | refine blk_drewN ?_ _ | refine blk_drew ?_ | refine blk_alloc ?_ _)); refine blk_put (cs := #[.int .i64 x106000_15, .int .i64 x106001_15, .int .i64 a0, .slice none 0 0]) ?_ 3 _ rfl; (with_reducible repeat (first | refine blk_drewN ?_ _ | refine blk_drew ?_ | refine blk_alloc ?_ _)); exact BK105.out))⟩; have n3_ : Aside0 (Below w.heap.size w w50) := ⟨(by rw [hw]; exact (by repeat (first | (with_reducible first | exact HB.out | apply below_alloc | apply pw_below_drewN | apply below_drew1 | refine below_set ?_ GE105.out) | exact HB.out)))⟩; clear hw; clear HO_9; clear HO128; clear BK105; clear HB; have HO_9 := n0_; have HO128 := n1_; have BK105 := n2_; have HB := n3_; clear n0_ n1_ n2_ n3_; have hcz51_0 : w50.cell? ⟨gb105, 0, none⟩ = some (.int .i64 x106000_15) := (blk_cell BK105.out 0).trans rfl; have hcz51_1 : w50.cell? ⟨gb105, 1, none⟩ = some (.int .i64 x106001_15) := (blk_cell BK105.out 1).trans rfl; have hcz51_2 : w50.cell? ⟨gb105, 2, none⟩ = some (.int .i64 a0) := (blk_cell BK105.out 2).trans rfl; have hcz51_3 : w50.cell? ⟨gb105, 3, none⟩ = some (.slice Ao48 y126.length co48) := (blk_cell BK105.out 3).trans rfl; have hfz51_0 := blk_frozen BK105.out 0; have hfz51_1 := blk_frozen BK105.out 1; have hfz51_2 := blk_frozen BK105.out 2; have hfz51_3 := blk_frozen BK105.out 3) | ((with_reducible refine gate_builtin (b := .append) (xs := #[.tmp 60, .tmp 62]) rfl ?_); (try (refine gate_guard (by rfl) ?_; dsimp only)); at_builtin; refine Kd.S_append k59 (w0 := w) w.heap.size rfl (.tmp 60) (.tmp 62) 35 59 (.agg #[(.int .i64 0), (.int .i64 0), (.int .i64 0), (.slice none 0 0)]) 48 rfl Try.underlying35 info59 rfl (by decide) (by omega) u9 x9_3 (⟨x106000_15, x106001_15, a0, y126⟩ : S59) [.int .i64 x106000_15, .int .i64 x106001_15, .int .i64 a0, .slice Ao48 y126.length co48] (fun k_ => k_ ≠ gb105) (fun k_ => some k_ = (.slice Ao48 y126.length co48 : Value).ownBlock) rfl rfl ?aP (fun k_ hk_ => ((Kd.R_mono (ok' := fun k_ => ((fun k_ => k_ ≠ gb105)) k_ ∧ some k_ ≠ (u9 : Value).ownBlock) (Kd.R_types (Kd.R_apart' (HO128.out) (Kd.S_typed HO_9.out) (by decide)) BK105.out (by decide)) (fun k_ hk => ⟨(by first | exact hk.2 | (have hq_ := hk; simp only [ne_eq] at hq_ ⊢; simp only [hq_, not_false_eq_true, and_self])), (by first | exact hk.1.2 | (have hq_ := hk; simp only [ne_eq] at hq_ ⊢; simp only [hq_, not_false_eq_true, and_self]))⟩))).1 k_ hk_.symm) ?aF ?aO ?aB ?aS ?aL ?_; (case aP => exact k59_mkM _ _ _ (⟨x106000_15, x106001_15, a0, y126⟩ : S59) (Kd.R_mono (Kd.R_tight rfl (Kd.R_mono (ok' := fun k_ => ((fun k_ => k_ ≠ gb105)) k_ ∧ some k_ ≠ (u9 : Value).ownBlock) (Kd.R_types (Kd.R_apart' (HO128.out) (Kd.S_typed HO_9.out) (by decide)) BK105.out (by decide)) (fun k_ hk => ⟨(by first | exact hk.2 | (have hq_ := hk; simp only [ne_eq] at hq_ ⊢; simp only [hq_, not_false_eq_true, and_self])), (by first | exact hk.1.2 | (have hq_ := hk; simp only [ne_eq] at hq_ ⊢; simp only [hq_, not_false_eq_true, and_self]))⟩))) (fun _ h_ => h_))); (case aB => exact (by repeat (first | (with_reducible first | exact HB.out | apply below_alloc | apply pw_below_drewN | apply below_drew1 | refine below_set ?_ GE105.out) | exact HB.out))); (case aF => exact (fun k_ hk => Kd.freshB (g := gb105) (o := .cells #[.int .i64 x106000_15, .int .i64 x106001_15, .int .i64 a0, .slice Ao48 y126.length co48] 59 (0, 0)) (by (with_reducible repeat (first | refine blk_drewN ?_ _ | refine blk_drew ?_ | refine blk_alloc ?_ _)); exact BK105.out) k_ hk)); (case aO => exact (by (with_reducible repeat (first | apply Kd.S_alloc | apply Kd.S_drewN | apply Kd.S_drew)); exact Kd.S_mono HO_9.out (fun k_ hk => ⟨(by first | exact hk.2 | (have hq_ := hk; simp only [ne_eq] at hq_ ⊢; simp only [hq_, not_false_eq_true, and_self])), fun e_ => absurd e_ (by first | exact hk.1 | (have hq_ := hk; simp only [ne_eq] at hq_ ⊢; simp only [hq_, not_false_eq_true, and_self]))⟩))); (case aS => exact (below_size (by repeat (first | (with_reducible first | exact HB.out | apply below_alloc | apply pw_below_drewN | apply below_drew1 | refine below_set ?_ GE105.out) | exact HB.out)))); (case aL => have := LMc43.out; omega); intro v130 w52 ho hb hg hat; (first | (with_reducible rw [← Ny129.out] at ho) | (simp only [Int.reduceToNat] at ho; with_reducible rw [← Ny129.out] at ho) | rw [← Ny129.out] at ho); have n0_ := Aside0.mk (blk_grown (g := gb105) (o := .cells #[.int .i64 x106000_15, .int .i64 x106001_15, .int .i64 a0, .slice Ao48 y126.length co48] 59 (0, 0)) (by (with_reducible repeat (first | refine blk_drewN ?_ _ | refine blk_drew ?_ | refine blk_alloc ?_ _)); exact BK105.out) hg (Kd.S_away HO_9.out (fun _ hk => (by first | exact hk.2 | (have hq_ := hk; simp only [ne_eq] at hq_ ⊢; simp only [hq_, not_false_eq_true, and_self]))))); have n1_ := Aside0.mk (hb); have n2_ := Aside0.mk (ho); clear BK105; clear HB; clear HO_9; clear HO128; have BK105 := n0_; have HB := n1_; have HO131 := n2_; clear n0_ n1_ n2_; clear ho hb hg hat))
                   go_roundg kj15
                   case measure => have := HJ6.out; have := HJ10.out; have := HK3.out; have := HJ12.out; have := HJ15.out; omega
                   case rel => exact ⟨(y129), (wrap64 (x10_3 + x3_10)), (by first | rfl | (simp; done) | (simp [*]; done)), H', ⟨by have := HJ6.out; have := HJ10.out; have := HK3.out; have := HJ12.out; have := HJ15.out; omega⟩, ⟨by (with_reducible repeat (first | apply Kd.S_alloc | apply Kd.S_drewN | apply Kd.S_drew)); exact Kd.S_mono HO131.out (fun _ hk => trivial)⟩, ⟨by repeat (first | (with_reducible first | exact HB.out | apply below_alloc | apply pw_below_drewN | apply below_drew1 | refine below_set ?_ GE105.out) | exact HB.out)⟩⟩
                  ·
                   rw [if_neg c43] at H
                   exact absurd H (by simp)
                 ·
                  rw [if_neg c42] at H
                  exact absurd H (by simp)
                ·
                 rw [if_neg c41] at H
                 exact absurd H (by simp)
               ·
                rw [if_neg c40] at H
                exact absurd H (by simp)
              ·
               rw [if_neg c39] at H
               exact absurd H (by simp)
          ·
           replace c15 := Bool.eq_false_iff.mpr c15
           subst c15
           have H1 : (some x9_3) = some r := by rw [if_neg (show ¬ (false = true) by decide)] at H; exact H
           clear H
           have H := H1
           clear H1
           obtain rfl := Option.some.inj H
           go_wp2
           go_ret
           exact ⟨_, by first | rfl | (simp [errW_none, errW_some] <;> rfl) | (simp [*, errW_none, errW_some] <;> rfl), by (with_reducible repeat (first | apply Kd.S_alloc | apply Kd.S_drewN | apply Kd.S_drew)); exact HO_9.out, by repeat (first | (with_reducible first | exact HB.out | apply below_alloc | apply pw_below_drewN | apply below_drew1) | exact HB.out)⟩
 ·
  replace c6 := Bool.eq_false_iff.mpr c6
  subst c6
  have H1 : (some y101) = some r := by rw [if_neg (show ¬ (false = true) by decide)] at H; exact H
  clear H
  have H := H1
  clear H1
  obtain rfl := Option.some.inj H
  go_enter Try.func17, Try.ntmps17
  go_wp2_with (first | ((with_reducible refine gate_dst (N := 13) rfl ?_); (try (refine gate_guard (by rfl) ?_; dsimp only)); refine Kd.S_lit k59 _ 59 ?hg (N := 13) ?hd (xs := ([] : List (S59))) (inner := []) (ok := fun _ => True) (okp := fun _ => True) ?hr ?hp (fun _ hk => hk) trivial (Below.refl _ _) (Nat.le_refl _) (by simp) ?_; (case hd => rfl); (case hg => rfl); (case hr => first | (go_simp; done) | (go_simp; rfl)); (case hp => exact (Reps.none _ _)); intro v102 w53 ho54 hb hg_ hnew_; clear hg_ hnew_; (first | rw [← Ny101.out] at ho54 | (simp only [Int.reduceToNat] at ho54; rw [← Ny101.out] at ho54)); have n0_ := Aside0.mk (Kd.S_lower ho54 (below_size (by repeat (first | (with_reducible first | exact HB.out | apply below_alloc | apply pw_below_drewN | apply below_drew1) | exact HB.out)))); have n1_ := Aside0.mk (below_step (by repeat (first | (with_reducible first | exact HB.out | apply below_alloc | apply pw_below_drewN | apply below_drew1) | exact HB.out)) hb); clear HB; have HO103 := n0_; have HB := n1_; clear n0_ n1_; clear hb ho54) | ((with_reducible refine gate_callee (f := 55) rfl ?_); refine goesL_ (some 15) rfl rfl Try.func55 (by kernel_rfl) rfl #[.int .i64 a0, .int .i64 1, .int .i64 2147483647] rfl (by (try simp only [List.map_toArray, List.map_cons, List.map_nil]); first | done | rfl | (simp only [List.length_drop, List.length_take]; rfl)) ?_; (with_reducible refine (spec_l1In.calls a0 1 2147483647 false _ A5.out).mono ?_); rintro e w' ⟨rfl, ⟨nd, rfl⟩⟩; refine ⟨_, rfl, ?_⟩))
  go_ret
  exact ⟨_, by first | rfl | (simp [errW_none, errW_some] <;> rfl) | (simp [*, errW_none, errW_some] <;> rfl), by (with_reducible repeat (first | apply Kd.S_alloc | apply Kd.S_drewN | apply Kd.S_drew)); exact HO103.out, by repeat (first | (with_reducible first | exact HB.out | apply below_alloc | apply pw_below_drewN | apply below_drew1) | exact HB.out)⟩

end Go.Proofs.Ytlgfcpmihocheaa.A
