/- Written by a program of this session, out of the translation: functions as plain Lean functions, and that the machine's calls answer as they do. Condition: none beyond each theorem's own. -/
import Derived.Test.YtlgfcpmihocheaaAx0
import Derived.Test.YtlgfcpmihocheaaAx2
import Derived.Test.YtlgfcpmihocheaaAx3
import Derived.Test.YtlgfcpmihocheaaAx5
import Derived.Test.YtlgfcpmihocheaaAx6
import Derived.Test.YtlgfcpmihocheaaAx8
import Derived.Test.YtlgfcpmihocheaaAx9
import Derived.Test.YtlgfcpmihocheaaAx10
import Derived.Test.YtlgfcpmihocheaaAx12
namespace Go.Proofs.Ytlgfcpmihocheaa.A
open Go.RowKit Go.Proofs.YtlgfcpmihocheaaW.PrintWords Go.Proofs.YtlgfcpmihocheaaW.PrintLast Go.Proofs.YtlgfcpmihocheaaW.PrintMore
attribute [local go_sem] max2_int min2_int max_two min_two max_three min_three max_four min_four   -- for this text's walks alone
set_option linter.unusedVariables false
set_option linter.unusedSimpArgs false

/-! ### laws_FnExactPart: function 4 -/
def laws_FnExactPart.j0 : Nat → Int → Bool → List Int → Int → List (S59) → List (S59) → Bool → Option (Bool)
 | 0, _, _, _, _, _, _, _ => none
 | k + 1, x0, x1, x2, x3, x9, x11, x51 => if x51 = true then (none) else ((laws_markFrameS.f k x11 1).bind fun bt178 => ((laws_heldFrameS.f k bt178.2 1).bind fun t180 => (if t180 < 0 then (none) else (if t180 = bt178.1 then ((laws_toByteS.f k x2).bind fun t181 => ((impl_Part.f x0 x1 t181 x3).bind fun t184 => ((laws_eqFrameS.f k t184 x9).bind fun t187 => (if t187 = true then ((laws_heldFrameS.f k bt178.2 1).bind fun t188 => (if t188 < 0 then (none) else (if t188 = bt178.1 then (some true) else (none)))) else (none))))) else (none)))))
def laws_FnExactPart.f (k : Nat) (a0 : Int) (a1 : Bool) (l2 : List Int) (a3 : Int) : Option (Bool) := if (l2.length : Int) > 1048576 then (some true) else ((laws_toByteS.f k l2).bind fun t158 => ((spec_Part.f k a0 a1 t158 a3).bind fun t161 => ((laws_toByteS.f k l2).bind fun t164 => ((impl_Part.f a0 a1 t164 a3).bind fun t167 => ((laws_eqFrameS.f k t167 t161).bind fun t170 => (if t170 = true then ((laws_toByteS.f k l2).bind fun t171 => ((laws_eqByteS.f k t164 t171).bind fun t174 => (if t174 = true then ((laws_markByteS.f k t164 1).bind fun bt175 => (if bt175.1 < 0 then (laws_FnExactPart.j0 k a0 a1 l2 a3 t161 t167 true) else ((laws_eqFrameS.f k t167 t161).bind fun t177 => (laws_FnExactPart.j0 k a0 a1 l2 a3 t161 t167 (!t177))))) else (none)))) else (none)))))))
theorem laws_FnExactPart.mono_l : ∀ k, (∀ y0 y1 y2 y3 y4 y5 y6, LeO (laws_FnExactPart.j0 k y0 y1 y2 y3 y4 y5 y6) (laws_FnExactPart.j0 (k + 1) y0 y1 y2 y3 y4 y5 y6))
 | 0 => fun _ _ _ _ _ _ _ r h => by simp [laws_FnExactPart.j0] at h
 | k + 1 => by
  have ih0 := laws_FnExactPart.mono_l k
  ·
   intro y0 y1 y2 y3 y4 y5 y6
   unfold laws_FnExactPart.j0
   repeat' first
   | (with_reducible exact ih0 _ _ _ _ _ _ _)
   | (with_reducible exact laws_eqByteS.mono _ _ _)
   | (with_reducible exact laws_eqFrameS.mono _ _ _)
   | (with_reducible exact laws_heldFrameS.mono _ _ _)
   | (with_reducible exact laws_markByteS.mono _ _ _)
   | (with_reducible exact laws_markFrameS.mono _ _ _)
   | (with_reducible exact laws_toByteS.mono _ _)
   | (with_reducible exact spec_Part.mono _ _ _ _ _)
   | (with_reducible exact LeO.refl _)
   | (with_reducible exact LeO.none _)
   | (with_reducible refine LeO.ite ?_ ?_)
   | (with_reducible refine LeO.bind ?_ (fun _ => ?_))
   | exact ih0 _ _ _ _ _ _ _
   | exact laws_eqByteS.mono _ _ _
   | exact laws_eqFrameS.mono _ _ _
   | exact laws_heldFrameS.mono _ _ _
   | exact laws_markByteS.mono _ _ _
   | exact laws_markFrameS.mono _ _ _
   | exact laws_toByteS.mono _ _
   | exact spec_Part.mono _ _ _ _ _
   | exact LeO.none _
   | refine LeO.ite ?_ ?_
   | refine LeO.bind ?_ (fun _ => ?_)
theorem laws_FnExactPart.mono : ∀ a0 a1 a2 a3 k, LeO (laws_FnExactPart.f k a0 a1 a2 a3) (laws_FnExactPart.f (k + 1) a0 a1 a2 a3) := by
 intro a0 a1 a2 a3 k
 have ih0 := laws_FnExactPart.mono_l k
 unfold laws_FnExactPart.f
 repeat' first
   | (with_reducible exact ih0 _ _ _ _ _ _ _)
   | (with_reducible exact laws_eqByteS.mono _ _ _)
   | (with_reducible exact laws_eqFrameS.mono _ _ _)
   | (with_reducible exact laws_heldFrameS.mono _ _ _)
   | (with_reducible exact laws_markByteS.mono _ _ _)
   | (with_reducible exact laws_markFrameS.mono _ _ _)
   | (with_reducible exact laws_toByteS.mono _ _)
   | (with_reducible exact spec_Part.mono _ _ _ _ _)
   | (with_reducible exact LeO.refl _)
   | (with_reducible exact LeO.none _)
   | (with_reducible refine LeO.ite ?_ ?_)
   | (with_reducible refine LeO.bind ?_ (fun _ => ?_))
   | exact ih0 _ _ _ _ _ _ _
   | exact laws_eqByteS.mono _ _ _
   | exact laws_eqFrameS.mono _ _ _
   | exact laws_heldFrameS.mono _ _ _
   | exact laws_markByteS.mono _ _ _
   | exact laws_markFrameS.mono _ _ _
   | exact laws_toByteS.mono _ _
   | exact spec_Part.mono _ _ _ _ _
   | exact LeO.none _
   | refine LeO.ite ?_ ?_
   | refine LeO.bind ?_ (fun _ => ?_)
set_option maxHeartbeats 8000000 in
set_option maxRecDepth 100000 in
theorem laws_FnExactPart.calls (k : Nat) (a0 : Int) (a1 : Bool) (A2 : Option Addr) (c2 : Nat) (l2 : List Int) (a3 : Int) (r : Bool) (w : World) (hr2 : Kd.C (Kd.int .u8) w A2 l2.length l2) (hc2 : l2.length ≤ c2) (h : laws_FnExactPart.f k a0 a1 l2 a3 = some r) :
  Calls Try.prog 4 #[.int .i64 a0, .bool a1, .slice A2 l2.length c2, .int .i64 a3] w fun e w' => e = .returned (.bool r) ∧ Below w.heap.size w w' := by
 have HR2 := Aside0.mk hr2
 have HC2 := Aside0.mk hc2
 clear hr2 hc2
 have HB := Aside0.mk (Below.refl w.heap.size w)
 have H : (if (l2.length : Int) > 1048576 then (some true) else ((laws_toByteS.f k l2).bind fun t158 => ((spec_Part.f k a0 a1 t158 a3).bind fun t161 => ((laws_toByteS.f k l2).bind fun t164 => ((impl_Part.f a0 a1 t164 a3).bind fun t167 => ((laws_eqFrameS.f k t167 t161).bind fun t170 => (if t170 = true then ((laws_toByteS.f k l2).bind fun t171 => ((laws_eqByteS.f k t164 t171).bind fun t174 => (if t174 = true then ((laws_markByteS.f k t164 1).bind fun bt175 => (if bt175.1 < 0 then (laws_FnExactPart.j0 k a0 a1 l2 a3 t161 t167 true) else ((laws_eqFrameS.f k t167 t161).bind fun t177 => (laws_FnExactPart.j0 k a0 a1 l2 a3 t161 t167 (!t177))))) else (none)))) else (none)))))))) = some r := h
 clear h
 by_cases c1 : (l2.length : Int) > 1048576
 ·
  rw [if_pos c1] at H
  obtain rfl := Option.some.inj H
  have c1b : decide (1048576 < (l2.length : Int)) = true := decide_eq_true c1
  have c1n : decide (1048576 < l2.length) = true := decide_eq_true (by omega)
  have c1p : 1048576 < l2.length := by omega
  clear H
  go_enter Try.func4, Try.ntmps4
  go_wp2
  go_ret
  exact ⟨rfl, HB.out⟩
 ·
  rw [if_neg c1] at H
  have c1b : decide (1048576 < (l2.length : Int)) = false := decide_eq_false c1
  have c1n : decide (1048576 < l2.length) = false := decide_eq_false (by omega)
  have c1p : ¬ (1048576 < l2.length) := by omega
  clear c1
  replace H := Option.bind_eq_some_iff.mp H
  obtain ⟨t1, ha1, H⟩ := H
  replace H := Option.bind_eq_some_iff.mp H
  obtain ⟨W0, ha2, H⟩ := H
  replace H := Option.bind_eq_some_iff.mp H
  obtain ⟨t3, ha3, H⟩ := H
  replace H := Option.bind_eq_some_iff.mp H
  obtain ⟨G0, ha4, H⟩ := H
  replace H := Option.bind_eq_some_iff.mp H
  obtain ⟨e5, ha5, H⟩ := H
  try try dsimp only at H
  cases e5 with
  | false => rw [if_neg (by decide)] at H; cases H
  | true =>
  rw [if_pos rfl] at H
  replace H := Option.bind_eq_some_iff.mp H
  obtain ⟨t5, b1, H⟩ := H
  replace H := Option.bind_eq_some_iff.mp H
  obtain ⟨e6, b2, H⟩ := H
  cases e6 with
  | false => rw [if_neg (by decide)] at H; cases H
  | true =>
  rw [if_pos rfl] at H
  replace H := Option.bind_eq_some_iff.mp H
  obtain ⟨⟨m1, y1⟩, b3, H⟩ := H
  try dsimp only at H
  by_cases cm2 : m1 < 0
  ·
   rw [if_pos cm2] at H
   exact absurd H (by cases k with | zero => simp [laws_FnExactPart.j0] | succ q => simp [laws_FnExactPart.j0])
  rw [if_neg cm2] at H
  replace H := Option.bind_eq_some_iff.mp H
  obtain ⟨e7, b4, H⟩ := H
  cases e7 with
  | false => exact absurd H (by cases k with | zero => simp [laws_FnExactPart.j0] | succ q => simp [laws_FnExactPart.j0])
  | true =>
  rw [show (!true) = false from rfl] at H
  obtain ⟨k2, rfl⟩ : ∃ q, k = q + 1 := by cases k with | zero => simp [laws_FnExactPart.j0] at H | succ q => exact ⟨q, rfl⟩
  rw [laws_FnExactPart.j0, if_neg (by decide)] at H
  replace H := Option.bind_eq_some_iff.mp H
  obtain ⟨⟨m2, y2⟩, d1, H⟩ := H
  try dsimp only at H
  replace H := Option.bind_eq_some_iff.mp H
  obtain ⟨q1, d2, H⟩ := H
  by_cases c3 : q1 < 0
  ·
   rw [if_pos c3] at H; cases H
  rw [if_neg c3] at H
  have e_ : q1 = m2 := by
    by_cases e_ : q1 = m2
    ·
     exact e_
    ·
     exfalso
     rw [if_neg e_] at H
     cases H
  subst e_
  rw [if_pos rfl] at H
  replace H := Option.bind_eq_some_iff.mp H
  obtain ⟨t7, d3, H⟩ := H
  replace H := Option.bind_eq_some_iff.mp H
  obtain ⟨H0, d4, H⟩ := H
  replace H := Option.bind_eq_some_iff.mp H
  obtain ⟨e8, d5, H⟩ := H
  try dsimp only at H
  cases e8 with
  | false => rw [if_neg (by decide)] at H; cases H
  | true =>
  rw [if_pos rfl] at H
  replace H := Option.bind_eq_some_iff.mp H
  obtain ⟨q2, f1, H⟩ := H
  by_cases c5 : q2 < 0
  ·
   rw [if_pos c5] at H; cases H
  rw [if_neg c5] at H
  have e_ : q2 = q1 := by
    by_cases e_ : q2 = q1
    ·
     exact e_
    ·
     exfalso
     rw [if_neg e_] at H
     cases H
  subst e_
  rw [if_pos rfl] at H
  obtain rfl := Option.some.inj H
  clear H c5
  have Xa1 := Aside0.mk ha1
  have Xa2 := Aside0.mk ha2
  have Xa3 := Aside0.mk ha3
  have Xa4 := Aside0.mk ha4
  have Xa5 := Aside0.mk ha5
  have Xb1 := Aside0.mk b1
  have Xb2 := Aside0.mk b2
  have Xb3 := Aside0.mk b3
  have Xb4 := Aside0.mk b4
  have Xd1 := Aside0.mk d1
  have Xd2 := Aside0.mk d2
  have Xd3 := Aside0.mk d3
  have Xd4 := Aside0.mk d4
  have Xd5 := Aside0.mk d5
  have Xf1 := Aside0.mk f1
  clear ha1 ha2 ha3 ha4 ha5 b1 b2 b3 b4 d1 d2 d3 d4 d5 f1
  have c2b : decide (m1 < 0) = false := decide_eq_false cm2
  have c3b : decide (q2 < 0) = false := decide_eq_false c3
  go_enter Try.func4, Try.ntmps4
  have HB0 := HB
  clear HB
  go_wp2_with (first | ((with_reducible refine gate_callee (f := 18) rfl ?_); refine goesL_ (some 22) rfl rfl Try.func18 (by kernel_rfl) rfl #[.slice A2 l2.length c2] rfl (by (try simp only [List.map_toArray, List.map_cons, List.map_nil]); first | done | rfl) ?_; (with_reducible refine (laws_toByteS.calls (k2 + 1) A2 c2 l2 t1 _ HR2.out HC2.out Xa1.out).mono ?_); rintro e w1 ⟨v1, rfl, ho, hb⟩; refine ⟨_, rfl, ?_⟩; obtain ⟨A1, c1, ev⟩ := Kd.R_slice ho; subst ev; have HB1 := Aside0.mk (below_step HB0.out hb); have R1 := Aside0.mk (Kd.R_reads' ho); clear ho hb) | ((with_reducible refine gate_callee (f := 17) rfl ?_); refine goesL_ (some 24) rfl rfl Try.func17 (by kernel_rfl) rfl #[.int .i64 a0, .bool a1, .slice A1 t1.length c1, .int .i64 a3] rfl (by (try simp only [List.map_toArray, List.map_cons, List.map_nil]); first | done | rfl) ?_; (with_reducible refine (spec_Part.calls (k2 + 1) a0 a1 A1 c1 t1 a3 W0 _ R1.out.2.2 R1.out.2.1 Xa2.out).mono ?_); rintro e w2 ⟨vW, rfl, ho, hb⟩; refine ⟨_, rfl, ?_⟩; obtain ⟨AW, cW, ev⟩ := Kd.S_slice ho; subst ev; have HB2 := Aside0.mk (below_step HB1.out hb); have SW2 : Aside0 (Kd.S k59 59 w2 w.heap.size (fun k_ => k_ < w2.heap.size) (.slice AW W0.length cW) W0) := Aside0.mk (Kd.S_mono (Kd.S_bound (Kd.S_lower ho (below_size HB1.out))) (fun k_ hk => hk.2.2.1)); clear ho hb R1 HB1 Xa1 Xa2) | ((with_reducible refine gate_callee (f := 18) rfl ?_); refine goesL_ (some 26) rfl rfl Try.func18 (by kernel_rfl) rfl #[.slice A2 l2.length c2] rfl (by (try simp only [List.map_toArray, List.map_cons, List.map_nil]); first | done | rfl) ?_; (with_reducible refine (laws_toByteS.calls (k2 + 1) A2 c2 l2 t3 _ (Kd.C_below HR2.out HB2.out) HC2.out Xa3.out).mono ?_); rintro e w3 ⟨v3, rfl, ho, hb⟩; refine ⟨_, rfl, ?_⟩; obtain ⟨A3, c3, ev⟩ := Kd.R_slice ho; subst ev; have HB3 := Aside0.mk (below_step HB2.out hb); have HS23 : Aside0 (w2.heap.size ≤ w3.heap.size) := Aside0.mk hb.size; have SW3 := Aside0.mk (Kd.S_below SW2.out hb); have RX3 : Aside0 (Kd.R (Kd.int .u8) 5 w3 w.heap.size (fun k_ => w2.heap.size ≤ k_ ∧ k_ < w3.heap.size) (.slice A3 t3.length c3) t3) := Aside0.mk (Kd.R_lower (Kd.R_mono (Kd.R_bound ho) (fun k_ hk => ⟨hk.2.1, hk.2.2.1⟩)) (below_size HB2.out)); clear ho hb HB2 SW2 Xa3) | ((with_reducible refine gate_callee (f := 19) rfl ?_); refine goesL_ (some 31) rfl rfl Try.func19 (by kernel_rfl) rfl #[.int .i64 a0, .bool a1, .slice A3 t3.length c3, .int .i64 a3] rfl (by (try simp only [List.map_toArray, List.map_cons, List.map_nil]); first | done | rfl) ?_; (with_reducible refine (impl_Part.calls  a0 a1 A3 c3 t3 a3 G0 _ (Kd.R_reads' RX3.out).2.2 (Kd.R_reads' RX3.out).2.1 Xa4.out).mono ?_); rintro e w4 ⟨vG, rfl, ho, hb⟩; refine ⟨_, rfl, ?_⟩; obtain ⟨AG, cG, ev⟩ := Kd.S_slice ho; subst ev; have HB4 := Aside0.mk (below_step HB3.out hb); have SW4 := Aside0.mk (Kd.S_below SW3.out hb); have RX4 := Aside0.mk (Kd.R_below RX3.out hb); have SG4 : Aside0 (Kd.S k59 59 w4 w.heap.size (fun k_ => w3.heap.size ≤ k_) (.slice AG G0.length cG) G0) := Aside0.mk (Kd.S_lower (Kd.S_mono (Kd.S_bound ho) (fun k_ hk => hk.2.1)) (below_size HB3.out)); clear ho hb HB3 SW3 RX3 Xa4) | ((with_reducible refine gate_callee (f := 20) rfl ?_); refine goesL_ (some 34) rfl rfl Try.func20 (by kernel_rfl) rfl #[.slice AG G0.length cG, .slice AW W0.length cW] rfl (by (try simp only [List.map_toArray, List.map_cons, List.map_nil]); first | done | rfl) ?_; (with_reducible refine (laws_eqFrameS.calls (k2 + 1) AG cG G0 AW cW W0 true _ (Kd.S_reads' SG4.out).2.2 (Kd.S_reads' SG4.out).2.1 (Kd.S_reads' SW4.out).2.2 (Kd.S_reads' SW4.out).2.1 Xa5.out).mono ?_); rintro e w5 ⟨rfl, hb⟩; refine ⟨_, rfl, ?_⟩; have HB5 := Aside0.mk (below_step HB4.out hb); have SW5 := Aside0.mk (Kd.S_below SW4.out hb); have RX5 := Aside0.mk (Kd.R_below RX4.out hb); have SG5 := Aside0.mk (Kd.S_below SG4.out hb); clear hb HB4 SW4 RX4 SG4 Xa5) | ((with_reducible refine gate_callee (f := 18) rfl ?_); refine goesL_ (some 38) rfl rfl Try.func18 (by kernel_rfl) rfl #[.slice A2 l2.length c2] rfl (by (try simp only [List.map_toArray, List.map_cons, List.map_nil]); first | done | rfl) ?_; (with_reducible refine (laws_toByteS.calls (k2 + 1) A2 c2 l2 t5 _ (Kd.C_below HR2.out HB5.out) HC2.out Xb1.out).mono ?_); rintro e w6 ⟨v5, rfl, ho, hb⟩; refine ⟨_, rfl, ?_⟩; obtain ⟨A5, c5, ev⟩ := Kd.R_slice ho; subst ev; have R5 := Aside0.mk (Kd.R_reads' ho); clear ho; have HB6 := Aside0.mk (below_step HB5.out hb); have SW6 := Aside0.mk (Kd.S_below SW5.out hb); have RX6 := Aside0.mk (Kd.R_below RX5.out hb); have SG6 := Aside0.mk (Kd.S_below SG5.out hb); clear hb HB5 SW5 RX5 SG5 Xb1) | ((with_reducible refine gate_callee (f := 21) rfl ?_); refine goesL_ (some 39) rfl rfl Try.func21 (by kernel_rfl) rfl #[.slice A3 t3.length c3, .slice A5 t5.length c5] rfl (by (try simp only [List.map_toArray, List.map_cons, List.map_nil]); first | done | rfl) ?_; (with_reducible refine (laws_eqByteS.calls (k2 + 1) A3 c3 t3 A5 c5 t5 true _ (Kd.R_reads' RX6.out).2.2 (Kd.R_reads' RX6.out).2.1 R5.out.2.2 R5.out.2.1 Xb2.out).mono ?_); rintro e w7 ⟨rfl, hd⟩; refine ⟨_, rfl, ?_⟩; have hb := hd.below; clear hd R5; have HB7 := Aside0.mk (below_step HB6.out hb); have SW7 := Aside0.mk (Kd.S_below SW6.out hb); have RX7 := Aside0.mk (Kd.R_below RX6.out hb); have SG7 := Aside0.mk (Kd.S_below SG6.out hb); clear hb HB6 SW6 RX6 SG6 Xb2) | ((with_reducible refine gate_callee (f := 22) rfl ?_); refine goesL_ (some 43) rfl rfl Try.func22 (by kernel_rfl) rfl #[.slice A3 t3.length c3, .int .i64 1] rfl (by (try simp only [List.map_toArray, List.map_cons, List.map_nil]); first | done | rfl) ?_; (with_reducible refine (laws_markByteS.calls (k2 + 1) (fun k_ => w2.heap.size ≤ k_ ∧ k_ < w3.heap.size) (.slice A3 t3.length c3) t3 1 m1 y1 w _ HB7.out RX7.out Xb3.out).mono ?_); rintro e w8 ⟨rfl, _, hb, hk⟩; refine ⟨_, rfl, ?_⟩; have HB8 := Aside0.mk hb; have SW8 := Aside0.mk (Kd.S_kept SW7.out hk (fun k_ h1_ h2_ => Nat.not_le.2 h1_ h2_.1)); have SG8 := Aside0.mk (Kd.S_kept SG7.out hk (fun k_ h1_ h2_ => Nat.not_le.2 h2_.2 h1_)); clear hb hk HB7 SW7 SG7 RX7 Xb3) | ((with_reducible refine gate_callee (f := 23) rfl ?_); refine goesL_ (some 54) rfl rfl Try.func23 (by kernel_rfl) rfl #[.slice AG G0.length cG, .int .i64 1] rfl (by (try simp only [List.map_toArray, List.map_cons, List.map_nil]); first | done | rfl) ?_; (with_reducible refine (laws_markFrameS.calls k2 (fun k_ => w3.heap.size ≤ k_) (.slice AG G0.length cG) G0 1 q2 y2 w _ HB9.out SG9.out Xd1.out).mono ?_); rintro e w10 ⟨rfl, hs, hb, hk⟩; refine ⟨_, rfl, ?_⟩; have HB10 := Aside0.mk hb; have SG10 := Aside0.mk hs; have SW10 := Aside0.mk (Kd.S_kept SW9.out hk (fun k_ h1_ h2_ => Nat.not_le.2 (Nat.lt_of_lt_of_le h1_ HS23.out) h2_)); have HLN := Aside0.mk (Kd.S_reads' hs).1; clear hb hk hs HB9 SW9 SG9 Xd1) | ((with_reducible refine gate_callee (f := 24) rfl ?_); refine goesL_ (some 57) rfl rfl Try.func24 (by kernel_rfl) rfl #[.slice AG G0.length cG, .int .i64 1] rfl (by (try simp only [List.map_toArray, List.map_cons, List.map_nil]); first | done | rfl) ?_; (with_reducible refine ((show Calls Try.prog 24 #[.slice AG G0.length cG, .int .i64 1] _ (fun e w' => e = .returned (.int .i64 q2) ∧ Drawn0 _ w') from by rw [HLN.out]; exact laws_heldFrameS.calls k2 AG cG y2 1 q2 _ (Kd.S_reads' (n := y2.length) (by rw [← HLN.out]; exact SG10.out)).2.2 (Kd.S_reads' (n := y2.length) (by rw [← HLN.out]; exact SG10.out)).2.1 Xd2.out)).mono ?_); rintro e w11 ⟨rfl, hd⟩; refine ⟨_, rfl, ?_⟩; have hb := hd.below; clear hd; have HB11 := Aside0.mk (below_step HB10.out hb); have SW11 := Aside0.mk (Kd.S_below SW10.out hb); have SG11 := Aside0.mk (Kd.S_below SG10.out hb); clear hb HB10 SW10 SG10 Xd2) | ((with_reducible refine gate_callee (f := 18) rfl ?_); refine goesL_ (some 66) rfl rfl Try.func18 (by kernel_rfl) rfl #[.slice A2 l2.length c2] rfl (by (try simp only [List.map_toArray, List.map_cons, List.map_nil]); first | done | rfl) ?_; (with_reducible refine (laws_toByteS.calls k2 A2 c2 l2 t7 _ (Kd.C_below HR2.out HB11.out) HC2.out Xd3.out).mono ?_); rintro e w12 ⟨v7, rfl, ho, hb⟩; refine ⟨_, rfl, ?_⟩; obtain ⟨A7, c7, ev⟩ := Kd.R_slice ho; subst ev; have R7 := Aside0.mk (Kd.R_reads' ho); clear ho; have HB12 := Aside0.mk (below_step HB11.out hb); have SW12 := Aside0.mk (Kd.S_below SW11.out hb); have SG12 := Aside0.mk (Kd.S_below SG11.out hb); clear hb HB11 SW11 SG11 Xd3) | ((with_reducible refine gate_callee (f := 19) rfl ?_); refine goesL_ (some 68) rfl rfl Try.func19 (by kernel_rfl) rfl #[.int .i64 a0, .bool a1, .slice A7 t7.length c7, .int .i64 a3] rfl (by (try simp only [List.map_toArray, List.map_cons, List.map_nil]); first | done | rfl) ?_; (with_reducible refine (impl_Part.calls  a0 a1 A7 c7 t7 a3 H0 _ R7.out.2.2 R7.out.2.1 Xd4.out).mono ?_); rintro e w13 ⟨vH, rfl, ho, hb⟩; refine ⟨_, rfl, ?_⟩; obtain ⟨AH, cH, ev⟩ := Kd.S_slice ho; subst ev; have SH := Aside0.mk (Kd.S_reads' ho); clear ho R7; have HB13 := Aside0.mk (below_step HB12.out hb); have SW13 := Aside0.mk (Kd.S_below SW12.out hb); have SG13 := Aside0.mk (Kd.S_below SG12.out hb); clear hb HB12 SW12 SG12 Xd4) | ((with_reducible refine gate_callee (f := 20) rfl ?_); refine goesL_ (some 71) rfl rfl Try.func20 (by kernel_rfl) rfl #[.slice AH H0.length cH, .slice AW W0.length cW] rfl (by (try simp only [List.map_toArray, List.map_cons, List.map_nil]); first | done | rfl) ?_; (with_reducible refine (laws_eqFrameS.calls k2 AH cH H0 AW cW W0 true _ SH.out.2.2 SH.out.2.1 (Kd.S_reads' SW13.out).2.2 (Kd.S_reads' SW13.out).2.1 Xd5.out).mono ?_); rintro e w14 ⟨rfl, hb⟩; refine ⟨_, rfl, ?_⟩; clear SH; have HB14 := Aside0.mk (below_step HB13.out hb); have SW14 := Aside0.mk (Kd.S_below SW13.out hb); have SG14 := Aside0.mk (Kd.S_below SG13.out hb); clear hb HB13 SW13 SG13 Xd5) | ((with_reducible refine gate_callee (f := 24) rfl ?_); refine goesL_ (some 75) rfl rfl Try.func24 (by kernel_rfl) rfl #[.slice AG G0.length cG, .int .i64 1] rfl (by (try simp only [List.map_toArray, List.map_cons, List.map_nil]); first | done | rfl) ?_; (with_reducible refine ((show Calls Try.prog 24 #[.slice AG G0.length cG, .int .i64 1] _ (fun e w' => e = .returned (.int .i64 q2) ∧ Drawn0 _ w') from by rw [HLN.out]; exact laws_heldFrameS.calls k2 AG cG y2 1 q2 _ (Kd.S_reads' (n := y2.length) (by rw [← HLN.out]; exact SG14.out)).2.2 (Kd.S_reads' (n := y2.length) (by rw [← HLN.out]; exact SG14.out)).2.1 Xf1.out)).mono ?_); rintro e w15 ⟨rfl, hd⟩; refine ⟨_, rfl, ?_⟩; have hb := hd.below; clear hd; have HB15 := Aside0.mk (below_step HB14.out hb); have SW15 := Aside0.mk (Kd.S_below SW14.out hb); have SG15 := Aside0.mk (Kd.S_below SG14.out hb); clear hb HB14 SW14 SG14 Xf1) | (go_at_call 20; (with_reducible refine (laws_eqFrameS.calls (k2 + 1) AG cG G0 AW cW W0 true _ (Kd.S_reads' SG8.out).2.2 (Kd.S_reads' SG8.out).2.1 (Kd.S_reads' SW8.out).2.2 (Kd.S_reads' SW8.out).2.1 Xb4.out).mono ?_); rintro e w9 ⟨rfl, hb⟩; have HB9 := Aside0.mk (below_step HB8.out hb); have SW9 := Aside0.mk (Kd.S_below SW8.out hb); have SG9 := Aside0.mk (Kd.S_below SG8.out hb); clear hb HB8 SW8 SG8 Xb4))
  go_ret
  exact ⟨rfl, HB15.out⟩

/-- THE ONE PURE STATEMENT of laws_FnExactPart: yours. -/
def laws_FnExactPart.Pure : Prop := ∀ (a0 : Int) (a1 : Bool) (l2 : List Int) (a3 : Int), (Lit.int .i64 a0).wf = true → l2.length ≤ maxLen → l2.length * 1 ≤ 140737488351232 → (∀ x ∈ l2, (Lit.int .u8 x).wf = true) → (Lit.int .i64 a3).wf = true → ∃ k, laws_FnExactPart.f k a0 a1 l2 a3 = some true
theorem laws_FnExactPart.walk (P : laws_FnExactPart.Pure) (a0 : Int) (a1 : Bool) (a2 : Option Addr) (len2 cap2 : Nat) (z2 : List Int) (a3 : Int) (w : World) (w0 : (Lit.int .i64 a0).wf = true) (w2 : (a2 = none ∧ len2 = 0 ∧ cap2 = 0 ∧ z2 = []) ∨ ∃ x, a2 = some x ∧ len2 ≤ cap2 ∧ cap2 ≤ maxLen ∧ z2.length = cap2 ∧ (∀ i, i < z2.length → w.cell? (x.add i) = some (.int .u8 (z2.getD i 0))) ∧ ∀ n ∈ z2, (Lit.int .u8 n).wf = true) (y2 : len2 * 1 ≤ 140737488351232) (w3 : (Lit.int .i64 a3).wf = true) :
  Calls Try.prog 4 #[.int .i64 a0, .bool a1, .slice a2 len2 cap2, .int .i64 a3] w fun e w' => e = .returned (.bool true) ∧ Below w.heap.size w w' := by
 obtain ⟨l2, rfl, hr2, hm2, hw2, hc2⟩ := ReadsInt.ofRowC w2
 obtain ⟨k, h⟩ := P a0 a1 l2 a3 w0 hm2 y2 hw2 w3
 refine (laws_FnExactPart.calls k a0 a1 _ _ l2 a3 true w (Kd.C_of_reads (d := (0 : Int)) (h1 := fun _ => rfl) hr2) hc2 h).mono ?_
 rintro e w' ⟨rfl, hd⟩
 exact ⟨rfl, hd⟩

end Go.Proofs.Ytlgfcpmihocheaa.A
