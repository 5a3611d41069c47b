/- Written by a program of this session, out of the translation: functions as plain Lean functions, and that the machine's calls answer as they do. Condition: none beyond each theorem's own. -/
import Derived.Test.YthflimnpiglgbaaDoorAx0
namespace Go.Proofs.YthflimnpiglgbaaDoor.A
open Go.RowKit Go.Proofs.YthflimnpiglgbaaDoorW.PrintWords Go.Proofs.YthflimnpiglgbaaDoorW.PrintLast Go.Proofs.YthflimnpiglgbaaDoorW.PrintMore
attribute [local go_sem] max2_int min2_int max_two min_two max_three min_three max_four min_four   -- for this text's walks alone
set_option linter.unusedVariables false
set_option linter.unusedSimpArgs false

/-! ### impl_putPrefix: function 63 -/
def impl_putPrefix.l0 : Nat → List Int → Int → Option (List Int)
 | 0, _, _ => none
 | k + 1, x0, x3 => if x3 > 127 then (if x0.length < 140737488355328 then (impl_putPrefix.l0 k (x0 ++ [(Go.bits .or .i64 128 (Go.bits .and .i64 x3 127)) % 256]) (x3 / 128)) else (none)) else (if x0.length < 140737488355328 then (some (x0 ++ [(x3) % 256])) else (none))
def impl_putPrefix.f (k : Nat) (l0 : List Int) (a1 : Int) (a2 : Int) (a3 : Int) : Option (List Int) := if 0 ≤ (IntKind.u64.wrap (a1)) then (if (mx 0 (mn a3 16777216)) < (wrap64 ((shl .i64 1 (IntKind.u64.wrap (a1))) - 1)) then (if l0.length < 140737488355328 then (some (l0 ++ [(Go.bits .or .i64 (Go.bits .and .i64 a2 (Go.bits .andNot .i64 255 (wrap64 ((shl .i64 1 (IntKind.u64.wrap (a1))) - 1)))) (mx 0 (mn a3 16777216))) % 256])) else (none)) else (if l0.length < 140737488355328 then (impl_putPrefix.l0 k (l0 ++ [(Go.bits .or .i64 (Go.bits .and .i64 a2 (Go.bits .andNot .i64 255 (wrap64 ((shl .i64 1 (IntKind.u64.wrap (a1))) - 1)))) (wrap64 ((shl .i64 1 (IntKind.u64.wrap (a1))) - 1))) % 256]) (wrap64 ((mx 0 (mn a3 16777216)) - (wrap64 ((shl .i64 1 (IntKind.u64.wrap (a1))) - 1))))) else (none))) else (none)
theorem impl_putPrefix.mono_l : ∀ k, (∀ y0 y1, LeO (impl_putPrefix.l0 k y0 y1) (impl_putPrefix.l0 (k + 1) y0 y1))
 | 0 => fun _ _ r h => by simp [impl_putPrefix.l0] at h
 | k + 1 => by
  have ih0 := impl_putPrefix.mono_l k
  ·
   intro y0 y1
   unfold impl_putPrefix.l0
   repeat' first
   | (with_reducible exact ih0 _ _)
   | (with_reducible exact LeO.refl _)
   | (with_reducible exact LeO.none _)
   | (with_reducible refine LeO.ite ?_ ?_)
   | (with_reducible refine LeO.bind ?_ (fun _ => ?_))
   | exact ih0 _ _
   | exact LeO.none _
   | refine LeO.ite ?_ ?_
   | refine LeO.bind ?_ (fun _ => ?_)
theorem impl_putPrefix.mono : ∀ a0 a1 a2 a3 k, LeO (impl_putPrefix.f k a0 a1 a2 a3) (impl_putPrefix.f (k + 1) a0 a1 a2 a3) := by
 intro a0 a1 a2 a3 k
 have ih0 := impl_putPrefix.mono_l k
 unfold impl_putPrefix.f
 repeat' first
   | (with_reducible exact ih0 _ _)
   | (with_reducible exact LeO.refl _)
   | (with_reducible exact LeO.none _)
   | (with_reducible refine LeO.ite ?_ ?_)
   | (with_reducible refine LeO.bind ?_ (fun _ => ?_))
   | exact ih0 _ _
   | exact LeO.none _
   | refine LeO.ite ?_ ?_
   | refine LeO.bind ?_ (fun _ => ?_)
set_option maxHeartbeats 8000000 in
set_option maxRecDepth 100000 in
theorem impl_putPrefix.calls (k : Nat) (P0_ : Nat → Prop) (u9000_ : Value) (l0 : List Int) (a1 : Int) (a2 : Int) (a3 : Int) (r : List Int) (w0 w : World) (hB : Below w0.heap.size w0 w) (ho0 : Kd.R (Kd.int .u8) 5 w w0.heap.size P0_ u9000_ l0) (h : impl_putPrefix.f k l0 a1 a2 a3 = some r) :
  Calls Tryd.prog 63 #[u9000_, .int .i64 a1, .int .i64 a2, .int .i64 a3] w fun e w' => ∃ v0_ : Value, e = .returned (v0_) ∧ Kd.R (Kd.int .u8) 5 w' w0.heap.size (fun k_ => (P0_ k_ ∨ w.heap.size ≤ k_)) v0_ r ∧ Below w0.heap.size w0 w' ∧ Kept w w' (fun k_ => P0_ k_) := by
 have HO0 := Aside0.mk (show Kd.R (Kd.int .u8) 5 w w0.heap.size (fun k_ => (P0_ k_ ∨ w.heap.size ≤ k_)) u9000_ l0 from Kd.R_mono ho0 (fun k_ hk => (.inl hk)))
 have HK := Aside0.mk (Kept.refl w (fun k_ => P0_ k_))
 have HW0 := Aside0.mk hB.size
 have HB := Aside0.mk hB
 clear hB
 have H : (if 0 ≤ (IntKind.u64.wrap (a1)) then (if (mx 0 (mn a3 16777216)) < (wrap64 ((shl .i64 1 (IntKind.u64.wrap (a1))) - 1)) then (if l0.length < 140737488355328 then (some (l0 ++ [(Go.bits .or .i64 (Go.bits .and .i64 a2 (Go.bits .andNot .i64 255 (wrap64 ((shl .i64 1 (IntKind.u64.wrap (a1))) - 1)))) (mx 0 (mn a3 16777216))) % 256])) else (none)) else (if l0.length < 140737488355328 then (impl_putPrefix.l0 k (l0 ++ [(Go.bits .or .i64 (Go.bits .and .i64 a2 (Go.bits .andNot .i64 255 (wrap64 ((shl .i64 1 (IntKind.u64.wrap (a1))) - 1)))) (wrap64 ((shl .i64 1 (IntKind.u64.wrap (a1))) - 1))) % 256]) (wrap64 ((mx 0 (mn a3 16777216)) - (wrap64 ((shl .i64 1 (IntKind.u64.wrap (a1))) - 1))))) else (none))) else (none)) = some r := h
 clear h
 obtain ⟨ji5, hji5⟩ : ∃ j_ : Int, (mn a3 16777216) = j_ := ⟨_, rfl⟩
 replace H : (if 0 ≤ (IntKind.u64.wrap (a1)) then (if (mx 0 (ji5)) < (wrap64 ((shl .i64 1 (IntKind.u64.wrap (a1))) - 1)) then (if l0.length < 140737488355328 then (some (l0 ++ [(Go.bits .or .i64 (Go.bits .and .i64 a2 (Go.bits .andNot .i64 255 (wrap64 ((shl .i64 1 (IntKind.u64.wrap (a1))) - 1)))) (mx 0 (ji5))) % 256])) else (none)) else (if l0.length < 140737488355328 then (impl_putPrefix.l0 k (l0 ++ [(Go.bits .or .i64 (Go.bits .and .i64 a2 (Go.bits .andNot .i64 255 (wrap64 ((shl .i64 1 (IntKind.u64.wrap (a1))) - 1)))) (wrap64 ((shl .i64 1 (IntKind.u64.wrap (a1))) - 1))) % 256]) (wrap64 ((mx 0 (ji5)) - (wrap64 ((shl .i64 1 (IntKind.u64.wrap (a1))) - 1))))) else (none))) else (none)) = some r := by first | (rw [hji5] at H; exact H) | (simp only [hji5] at H ⊢; exact H)
 (try (have hji5h : ji5 ≤ 16777216 := by (rw [← hji5]; unfold mn; (repeat' split) <;> omega)))
 (try (have hji5g : ji5 ≤ 64 := by omega))
 have hji5_ : (if 16777216 < a3 then 16777216 else a3) = ji5 := hji5
 obtain ⟨ji6, hji6⟩ : ∃ j_ : Int, (mx 0 (ji5)) = j_ := ⟨_, rfl⟩
 replace H : (if 0 ≤ (IntKind.u64.wrap (a1)) then (if (ji6) < (wrap64 ((shl .i64 1 (IntKind.u64.wrap (a1))) - 1)) then (if l0.length < 140737488355328 then (some (l0 ++ [(Go.bits .or .i64 (Go.bits .and .i64 a2 (Go.bits .andNot .i64 255 (wrap64 ((shl .i64 1 (IntKind.u64.wrap (a1))) - 1)))) (ji6)) % 256])) else (none)) else (if l0.length < 140737488355328 then (impl_putPrefix.l0 k (l0 ++ [(Go.bits .or .i64 (Go.bits .and .i64 a2 (Go.bits .andNot .i64 255 (wrap64 ((shl .i64 1 (IntKind.u64.wrap (a1))) - 1)))) (wrap64 ((shl .i64 1 (IntKind.u64.wrap (a1))) - 1))) % 256]) (wrap64 ((ji6) - (wrap64 ((shl .i64 1 (IntKind.u64.wrap (a1))) - 1))))) else (none))) else (none)) = some r := by first | (rw [hji6] at H; exact H) | (simp only [hji6] at H ⊢; exact H)
 have hji6_ : (if 0 < (ji5) then (ji5) else 0) = ji6 := hji6
 obtain ⟨ji7, hji7⟩ : ∃ j_ : Int, (IntKind.u64.wrap (a1)) = j_ := ⟨_, rfl⟩
 replace H : (if 0 ≤ (ji7) then (if (ji6) < (wrap64 ((shl .i64 1 (ji7)) - 1)) then (if l0.length < 140737488355328 then (some (l0 ++ [(Go.bits .or .i64 (Go.bits .and .i64 a2 (Go.bits .andNot .i64 255 (wrap64 ((shl .i64 1 (ji7)) - 1)))) (ji6)) % 256])) else (none)) else (if l0.length < 140737488355328 then (impl_putPrefix.l0 k (l0 ++ [(Go.bits .or .i64 (Go.bits .and .i64 a2 (Go.bits .andNot .i64 255 (wrap64 ((shl .i64 1 (ji7)) - 1)))) (wrap64 ((shl .i64 1 (ji7)) - 1))) % 256]) (wrap64 ((ji6) - (wrap64 ((shl .i64 1 (ji7)) - 1))))) else (none))) else (none)) = some r := by first | (rw [hji7] at H; exact H) | (simp only [hji7] at H ⊢; exact H)
 by_cases c8 : 0 ≤ (ji7)
 ·
  rw [if_pos c8] at H
  have c8b0 := eq_true c8
  have c8b1 : decide (0 ≤ (ji7)) = true := decide_eq_true c8
  clear c8
  obtain ⟨ji9, hji9⟩ : ∃ j_ : Int, (shl .i64 1 (ji7)) = j_ := ⟨_, rfl⟩
  replace H : (if (ji6) < (wrap64 ((ji9) - 1)) then (if l0.length < 140737488355328 then (some (l0 ++ [(Go.bits .or .i64 (Go.bits .and .i64 a2 (Go.bits .andNot .i64 255 (wrap64 ((ji9) - 1)))) (ji6)) % 256])) else (none)) else (if l0.length < 140737488355328 then (impl_putPrefix.l0 k (l0 ++ [(Go.bits .or .i64 (Go.bits .and .i64 a2 (Go.bits .andNot .i64 255 (wrap64 ((ji9) - 1)))) (wrap64 ((ji9) - 1))) % 256]) (wrap64 ((ji6) - (wrap64 ((ji9) - 1))))) else (none))) = some r := by first | (rw [hji9] at H; exact H) | (simp only [hji9] at H ⊢; exact H)
  have hji9_ : (IntKind.i64.wrap (1 * 2 ^ min (ji7).toNat 64)) = ji9 := hji9
  have hji9z : (ji7) ≤ 64 → (IntKind.i64.wrap (1 * 2 ^ (ji7).toNat)) = ji9 := shl_small hji9
  have hji9u : (IntKind.i64.wrap (2 ^ min (ji7).toNat 64)) = ji9 := by have h_ := hji9_; rw [Int.one_mul] at h_; exact h_
  have hji9v : (ji7) ≤ 64 → (IntKind.i64.wrap (2 ^ (ji7).toNat)) = ji9 := fun hle_ => by have h_ := hji9z hle_; rw [Int.one_mul] at h_; exact h_
  have hji9y : (wrap64 (1 * 2 ^ min (ji7).toNat 64)) = ji9 := (i64_w _).symm.trans hji9_
  have hji9x : (ji7) ≤ 64 → (wrap64 (1 * 2 ^ (ji7).toNat)) = ji9 := fun h_ => (i64_w _).symm.trans (hji9z h_)
  by_cases c10 : (ji6) < (wrap64 ((ji9) - 1))
  ·
   rw [if_pos c10] at H
   have c10b0 : decide ((ji6) < (wrap64 ((ji9) - 1))) = true := decide_eq_true c10
   clear c10
   by_cases c11 : l0.length < 140737488355328
   ·
    rw [if_pos c11] at H
    have LMc11 := Aside0.mk c11
    clear c11
    obtain ⟨y359, hy359⟩ : ∃ y_ : List Int, y_ = (l0 ++ [(Go.bits .or .i64 (Go.bits .and .i64 a2 (Go.bits .andNot .i64 255 (wrap64 ((ji9) - 1)))) (ji6)) % 256]) := ⟨_, rfl⟩
    replace H : (some y359) = some r := by first | (rw [hy359]; with_reducible exact H) | (have H2_ := (Option.bind_some _ _).symm.trans H; rw [hy359]; with_reducible exact H2_) | (have H2_ := (Option.bind_some _ _).symm.trans H; with_reducible exact H2_) | with_reducible exact H | (rw [hy359]; exact H) | exact H
    have Ny359 := Aside0.mk hy359
    clear hy359
    obtain rfl := Option.some.inj H
    go_enter Tryd.func63, Tryd.ntmps63
    go_wp2_with (first | ((with_reducible refine gate_builtin (b := .append) (xs := #[.tmp 24, .tmp 29]) rfl ?_); at_builtin; refine Kd.R_append (Kd.int .u8) (w0 := w0) w0.heap.size rfl (.tmp 24) (.tmp 29) 26 5 (.int .u8 0) 1 rfl Tryd.underlying26 info5 rfl (by decide) (by omega) u9000_ l0 ((Go.bits .or .i64 (Go.bits .and .i64 a2 (Go.bits .andNot .i64 255 (wrap64 ((ji9) - 1)))) (ji6)) % 256) [.int .u8 ((Go.bits .or .i64 (Go.bits .and .i64 a2 (Go.bits .andNot .i64 255 (wrap64 ((ji9) - 1)))) (ji6)) % 256)] (fun k_ => (P0_ k_ ∨ w.heap.size ≤ k_)) (fun _ => False) rfl rfl ?aP (fun _ hk => hk.elim) ?aF ?aO ?aB ?aS ?aL ?_; (case aP => exact rfl); (case aB => exact (by repeat (first | (with_reducible first | exact HB.out | apply below_alloc | apply pw_below_drewN | apply below_drew1) | exact HB.out))); (case aF => exact (fun k_ hk => (.inr (Nat.le_trans (by first | exact HK.out.1 | exact (show Kept w _ (fun k_ => P0_ k_) from by repeat (first | (with_reducible first | exact HK.out | apply Kept.alloc | apply Kept.drewN | apply Kept.drew) | exact HK.out)).1) hk)))); (case aO => exact (by (with_reducible repeat (first | apply Kd.R_alloc | apply Kd.R_drewN | apply Kd.R_drew)); exact HO0.out)); (case aS => exact (below_size (by repeat (first | (with_reducible first | exact HB.out | apply below_alloc | apply pw_below_drewN | apply below_drew1) | exact HB.out)))); (case aL => have := LMc11.out; omega); intro v360 w12 ho hb hg hat; (first | (with_reducible rw [← Ny359.out] at ho) | (simp only [Int.reduceToNat] at ho; with_reducible rw [← Ny359.out] at ho) | rw [← Ny359.out] at ho); have n0_ := Aside0.mk (hb); have n1_ := Aside0.mk (Kept.of_grown (S := (fun k_ => P0_ k_)) hg (by repeat (first | (with_reducible first | exact HK.out | apply Kept.alloc | apply Kept.drewN | apply Kept.drew) | exact HK.out)) (fun k_ e_ => (HO0.out.1 k_ e_))); have n2_ := Aside0.mk (ho); clear HB; clear HK; clear HO0; have HB := n0_; have HK := n1_; have HO361 := n2_; clear n0_ n1_ n2_; clear ho hb hg hat))
    go_ret
    exact ⟨_, by first | rfl | (simp [errW_none, errW_some] <;> rfl) | (simp only [← hji5, ← hji6, ← hji7, ← hji9]; first | rfl | (simp [errW_none, errW_some] <;> rfl)) | (simp [*, errW_none, errW_some] <;> rfl), by (with_reducible repeat (first | apply Kd.R_alloc | apply Kd.R_drewN | apply Kd.R_drew)); exact HO361.out, by repeat (first | (with_reducible first | exact HB.out | apply below_alloc | apply pw_below_drewN | apply below_drew1) | exact HB.out), by repeat (first | (with_reducible first | exact HK.out | apply Kept.alloc | apply Kept.drewN | apply Kept.drew) | exact HK.out)⟩
   ·
    rw [if_neg c11] at H
    exact absurd H (by simp)
  ·
   rw [if_neg c10] at H
   have c10b0 : decide ((ji6) < (wrap64 ((ji9) - 1))) = false := decide_eq_false c10
   clear c10
   by_cases c13 : l0.length < 140737488355328
   ·
    rw [if_pos c13] at H
    have LMc13 := Aside0.mk c13
    clear c13
    obtain ⟨y362, hy362⟩ : ∃ y_ : List Int, y_ = (l0 ++ [(Go.bits .or .i64 (Go.bits .and .i64 a2 (Go.bits .andNot .i64 255 (wrap64 ((ji9) - 1)))) (wrap64 ((ji9) - 1))) % 256]) := ⟨_, rfl⟩
    replace H : (impl_putPrefix.l0 k y362 (wrap64 ((ji6) - (wrap64 ((ji9) - 1))))) = some r := by first | (rw [hy362]; with_reducible exact H) | (have H2_ := (Option.bind_some _ _).symm.trans H; rw [hy362]; with_reducible exact H2_) | (have H2_ := (Option.bind_some _ _).symm.trans H; with_reducible exact H2_) | with_reducible exact H | (rw [hy362]; exact H) | exact H
    have Ny362 := Aside0.mk hy362
    clear hy362
    have H' := Aside0.mk H
    clear H
    go_enter Tryd.func63, Tryd.ntmps63
    go_wp2_with (first | ((with_reducible refine gate_builtin (b := .append) (xs := #[.tmp 31, .tmp 36]) rfl ?_); at_builtin; refine Kd.R_append (Kd.int .u8) (w0 := w0) w0.heap.size rfl (.tmp 31) (.tmp 36) 26 5 (.int .u8 0) 1 rfl Tryd.underlying26 info5 rfl (by decide) (by omega) u9000_ l0 ((Go.bits .or .i64 (Go.bits .and .i64 a2 (Go.bits .andNot .i64 255 (wrap64 ((ji9) - 1)))) (wrap64 ((ji9) - 1))) % 256) [.int .u8 ((Go.bits .or .i64 (Go.bits .and .i64 a2 (Go.bits .andNot .i64 255 (wrap64 ((ji9) - 1)))) (wrap64 ((ji9) - 1))) % 256)] (fun k_ => (P0_ k_ ∨ w.heap.size ≤ k_)) (fun _ => False) rfl rfl ?aP (fun _ hk => hk.elim) ?aF ?aO ?aB ?aS ?aL ?_; (case aP => exact rfl); (case aB => exact (by repeat (first | (with_reducible first | exact HB.out | apply below_alloc | apply pw_below_drewN | apply below_drew1) | exact HB.out))); (case aF => exact (fun k_ hk => (.inr (Nat.le_trans (by first | exact HK.out.1 | exact (show Kept w _ (fun k_ => P0_ k_) from by repeat (first | (with_reducible first | exact HK.out | apply Kept.alloc | apply Kept.drewN | apply Kept.drew) | exact HK.out)).1) hk)))); (case aO => exact (by (with_reducible repeat (first | apply Kd.R_alloc | apply Kd.R_drewN | apply Kd.R_drew)); exact HO0.out)); (case aS => exact (below_size (by repeat (first | (with_reducible first | exact HB.out | apply below_alloc | apply pw_below_drewN | apply below_drew1) | exact HB.out)))); (case aL => have := LMc13.out; omega); intro v363 w14 ho hb hg hat; (first | (with_reducible rw [← Ny362.out] at ho) | (simp only [Int.reduceToNat] at ho; with_reducible rw [← Ny362.out] at ho) | rw [← Ny362.out] at ho); have n0_ := Aside0.mk (hb); have n1_ := Aside0.mk (Kept.of_grown (S := (fun k_ => P0_ k_)) hg (by repeat (first | (with_reducible first | exact HK.out | apply Kept.alloc | apply Kept.drewN | apply Kept.drew) | exact HK.out)) (fun k_ e_ => (HO0.out.1 k_ e_))); have n2_ := Aside0.mk (ho); clear HB; clear HK; clear HO0; have HB := n0_; have HK := n1_; have HO364 := n2_; clear n0_ n1_ n2_; clear ho hb hg hat))
    go_loopg [0, 3] k (fun kq v0 v3 w' => ∃ (x0_1 : List Int) (x3_1 : Int), v3 = .int .i64 x3_1 ∧ Aside0 (impl_putPrefix.l0 kq x0_1 x3_1 = some r) ∧ Aside0 (kq ≤ k) ∧ Aside0 (Kd.R (Kd.int .u8) 5 w' w0.heap.size (fun k_ => (P0_ k_ ∨ w.heap.size ≤ k_)) v0 x0_1) ∧ Aside0 (Kept w w' (fun k_ => P0_ k_)) ∧ Aside0 (Below w0.heap.size w0 w'))
    case atStart => exact ⟨(y362), (wrap64 ((ji6) - (wrap64 ((ji9) - 1)))), (by first | rfl | (simp; done) | (simp only [← hji6, ← hji9] <;> (first | rfl | simp)) | (simp [*]; done)), H', ⟨Nat.le_refl _⟩, ⟨by (with_reducible repeat (first | apply Kd.R_alloc | apply Kd.R_drewN | apply Kd.R_drew)); exact HO364.out⟩, ⟨by repeat (first | (with_reducible first | exact HK.out | apply Kept.alloc | apply Kept.drewN | apply Kept.drew) | exact HK.out)⟩, ⟨by repeat (first | (with_reducible first | exact HB.out | apply below_alloc | apply pw_below_drewN | apply below_drew1) | exact HB.out)⟩⟩
    case round =>
     clear H'
     try clear c1
     try clear p2
     try clear c6
     try clear p6
     try clear c8
     try clear c8b0
     try clear c8b1
     try clear c10
     try clear c10b0
     try clear c11
     try clear c13
     obtain ⟨x0_1, x3_1, rfl, HA, HK1, HO_0, HK, HB⟩ := hrel
     cases gk with
     | zero => exact absurd HA.out (by simp [impl_putPrefix.l0])
     | succ k1 =>
      have H := HA.out
      clear HA
      simp only [impl_putPrefix.l0] at H
      by_cases c15 : x3_1 > 127
      ·
       rw [if_pos c15] at H
       have c15b0 : decide (127 < x3_1) = true := decide_eq_true c15
       clear c15
       by_cases c16 : x0_1.length < 140737488355328
       ·
        rw [if_pos c16] at H
        have LMc16 := Aside0.mk c16
        clear c16
        obtain ⟨y365, hy365⟩ : ∃ y_ : List Int, y_ = (x0_1 ++ [(Go.bits .or .i64 128 (Go.bits .and .i64 x3_1 127)) % 256]) := ⟨_, rfl⟩
        replace H : (impl_putPrefix.l0 k1 y365 (x3_1 / 128)) = some r := by first | (rw [hy365]; with_reducible exact H) | (have H2_ := (Option.bind_some _ _).symm.trans H; rw [hy365]; with_reducible exact H2_) | (have H2_ := (Option.bind_some _ _).symm.trans H; with_reducible exact H2_) | with_reducible exact H | (rw [hy365]; exact H) | exact H
        have Ny365 := Aside0.mk hy365
        clear hy365
        have H' := Aside0.mk H
        clear H
        go_wp2_with (first | ((with_reducible refine gate_builtin (b := .append) (xs := #[.tmp 43, .tmp 48]) rfl ?_); at_builtin; refine Kd.R_append (Kd.int .u8) (w0 := w0) w0.heap.size rfl (.tmp 43) (.tmp 48) 26 5 (.int .u8 0) 1 rfl Tryd.underlying26 info5 rfl (by decide) (by omega) u0 x0_1 ((Go.bits .or .i64 128 (Go.bits .and .i64 x3_1 127)) % 256) [.int .u8 ((Go.bits .or .i64 128 (Go.bits .and .i64 x3_1 127)) % 256)] (fun k_ => (P0_ k_ ∨ w.heap.size ≤ k_)) (fun _ => False) rfl rfl ?aP (fun _ hk => hk.elim) ?aF ?aO ?aB ?aS ?aL ?_; (case aP => exact rfl); (case aB => exact (by repeat (first | (with_reducible first | exact HB.out | apply below_alloc | apply pw_below_drewN | apply below_drew1) | exact HB.out))); (case aF => exact (fun k_ hk => (.inr (Nat.le_trans (by first | exact HK.out.1 | exact (show Kept w _ (fun k_ => P0_ k_) from by repeat (first | (with_reducible first | exact HK.out | apply Kept.alloc | apply Kept.drewN | apply Kept.drew) | exact HK.out)).1) hk)))); (case aO => exact (by (with_reducible repeat (first | apply Kd.R_alloc | apply Kd.R_drewN | apply Kd.R_drew)); exact HO_0.out)); (case aS => exact (below_size (by repeat (first | (with_reducible first | exact HB.out | apply below_alloc | apply pw_below_drewN | apply below_drew1) | exact HB.out)))); (case aL => have := LMc16.out; omega); intro v366 w17 ho hb hg hat; (first | (with_reducible rw [← Ny365.out] at ho) | (simp only [Int.reduceToNat] at ho; with_reducible rw [← Ny365.out] at ho) | rw [← Ny365.out] at ho); have n0_ := Aside0.mk (hb); have n1_ := Aside0.mk (Kept.of_grown (S := (fun k_ => P0_ k_)) hg (by repeat (first | (with_reducible first | exact HK.out | apply Kept.alloc | apply Kept.drewN | apply Kept.drew) | exact HK.out)) (fun k_ e_ => (HO_0.out.1 k_ e_))); have n2_ := Aside0.mk (ho); clear HB; clear HK; clear HO_0; have HB := n0_; have HK := n1_; have HO367 := n2_; clear n0_ n1_ n2_; clear ho hb hg hat))
        go_roundg k1
        case measure => have := HK1.out; omega
        case rel => exact ⟨(y365), (x3_1 / 128), (by first | rfl | (simp; done) | (simp [*]; done)), H', ⟨by have := HK1.out; omega⟩, ⟨by (with_reducible repeat (first | apply Kd.R_alloc | apply Kd.R_drewN | apply Kd.R_drew)); exact HO367.out⟩, ⟨by repeat (first | (with_reducible first | exact HK.out | apply Kept.alloc | apply Kept.drewN | apply Kept.drew) | exact HK.out)⟩, ⟨by repeat (first | (with_reducible first | exact HB.out | apply below_alloc | apply pw_below_drewN | apply below_drew1) | exact HB.out)⟩⟩
       ·
        rw [if_neg c16] at H
        exact absurd H (by simp)
      ·
       rw [if_neg c15] at H
       have c15b0 : decide (127 < x3_1) = false := decide_eq_false c15
       clear c15
       by_cases c18 : x0_1.length < 140737488355328
       ·
        rw [if_pos c18] at H
        have LMc18 := Aside0.mk c18
        clear c18
        obtain ⟨y368, hy368⟩ : ∃ y_ : List Int, y_ = (x0_1 ++ [(x3_1) % 256]) := ⟨_, rfl⟩
        replace H : (some y368) = some r := by first | (rw [hy368]; with_reducible exact H) | (have H2_ := (Option.bind_some _ _).symm.trans H; rw [hy368]; with_reducible exact H2_) | (have H2_ := (Option.bind_some _ _).symm.trans H; with_reducible exact H2_) | with_reducible exact H | (rw [hy368]; exact H) | exact H
        have Ny368 := Aside0.mk hy368
        clear hy368
        obtain rfl := Option.some.inj H
        go_wp2_with (first | ((with_reducible refine gate_builtin (b := .append) (xs := #[.tmp 52, .tmp 55]) rfl ?_); at_builtin; refine Kd.R_append (Kd.int .u8) (w0 := w0) w0.heap.size rfl (.tmp 52) (.tmp 55) 26 5 (.int .u8 0) 1 rfl Tryd.underlying26 info5 rfl (by decide) (by omega) u0 x0_1 ((x3_1) % 256) [.int .u8 ((x3_1) % 256)] (fun k_ => (P0_ k_ ∨ w.heap.size ≤ k_)) (fun _ => False) rfl rfl ?aP (fun _ hk => hk.elim) ?aF ?aO ?aB ?aS ?aL ?_; (case aP => exact rfl); (case aB => exact (by repeat (first | (with_reducible first | exact HB.out | apply below_alloc | apply pw_below_drewN | apply below_drew1) | exact HB.out))); (case aF => exact (fun k_ hk => (.inr (Nat.le_trans (by first | exact HK.out.1 | exact (show Kept w _ (fun k_ => P0_ k_) from by repeat (first | (with_reducible first | exact HK.out | apply Kept.alloc | apply Kept.drewN | apply Kept.drew) | exact HK.out)).1) hk)))); (case aO => exact (by (with_reducible repeat (first | apply Kd.R_alloc | apply Kd.R_drewN | apply Kd.R_drew)); exact HO_0.out)); (case aS => exact (below_size (by repeat (first | (with_reducible first | exact HB.out | apply below_alloc | apply pw_below_drewN | apply below_drew1) | exact HB.out)))); (case aL => have := LMc18.out; omega); intro v369 w19 ho hb hg hat; (first | (with_reducible rw [← Ny368.out] at ho) | (simp only [Int.reduceToNat] at ho; with_reducible rw [← Ny368.out] at ho) | rw [← Ny368.out] at ho); have n0_ := Aside0.mk (hb); have n1_ := Aside0.mk (Kept.of_grown (S := (fun k_ => P0_ k_)) hg (by repeat (first | (with_reducible first | exact HK.out | apply Kept.alloc | apply Kept.drewN | apply Kept.drew) | exact HK.out)) (fun k_ e_ => (HO_0.out.1 k_ e_))); have n2_ := Aside0.mk (ho); clear HB; clear HK; clear HO_0; have HB := n0_; have HK := n1_; have HO370 := n2_; clear n0_ n1_ n2_; clear ho hb hg hat))
        go_ret
        exact ⟨_, by first | rfl | (simp [errW_none, errW_some] <;> rfl) | (simp only [← hji5, ← hji6, ← hji7, ← hji9]; first | rfl | (simp [errW_none, errW_some] <;> rfl)) | (simp [*, errW_none, errW_some] <;> rfl), by (with_reducible repeat (first | apply Kd.R_alloc | apply Kd.R_drewN | apply Kd.R_drew)); exact HO370.out, by repeat (first | (with_reducible first | exact HB.out | apply below_alloc | apply pw_below_drewN | apply below_drew1) | exact HB.out), by repeat (first | (with_reducible first | exact HK.out | apply Kept.alloc | apply Kept.drewN | apply Kept.drew) | exact HK.out)⟩
       ·
        rw [if_neg c18] at H
        exact absurd H (by simp)
   ·
    rw [if_neg c13] at H
    exact absurd H (by simp)
 ·
  rw [if_neg c8] at H
  exact absurd H (by simp)

end Go.Proofs.YthflimnpiglgbaaDoor.A
