/- huff: what the call answers, over a block that holds the codes. Condition: each theorem's own. -/
import Derived.Test.YthflimnpiglgbaaDoorLibHuff
import Derived.RegionTactic
import Derived.BigRegion
set_option linter.unusedVariables false
set_option linter.unusedSimpArgs false
namespace Go.Proofs.YthflimnpiglgbaaDoor.LibHuffB
open Go Go.RowKit Go.Proofs.YthflimnpiglgbaaDoorW.PrintWords Go.Proofs.YthflimnpiglgbaaDoorW.PrintLast Go.Proofs.YthflimnpiglgbaaDoorW.PrintMore Go.Proofs.YthflimnpiglgbaaDoor.LibLens Go.Proofs.YthflimnpiglgbaaDoor.LibHuff Go.Proofs.YthflimnpiglgbaaDoor.A
attribute [local go_sem] max2_int min2_int max_two min_two max_three min_three max_four min_four
mutual
def hf0 : Nat → ByteArray → List Int → List Int → List Int → Int → Int → Int → Option (List Int)
 | 0, _, _, _, _, _, _, _ => none
 | k + 1, x0, x3, x4, x5, x6, x7, x8 => if x8 < (x0.size : Int) then (if 0 ≤ x8 then (if 0 ≤ (bt x0 x8) then (if (bt x0 x8) < (x3.length : Int) then (if 0 ≤ (IntKind.u64.wrap (rd x3 (bt x0 x8))) then (if (bt x0 x8) < (x4.length : Int) then (hf1 k x0 x3 x4 x5 (Go.bits .or .i64 (shl .i64 x6 (IntKind.u64.wrap (rd x3 (bt x0 x8)))) (rd x4 (bt x0 x8))) (wrap64 (x7 + (rd x3 (bt x0 x8)))) x8) else (none)) else (none)) else (none)) else (none)) else (none)) else (if x7 > 0 then (if 0 ≤ (IntKind.u64.wrap (wrap64 (8 - x7))) then (if x5.length < 140737488355328 then (some (x5 ++ [(Go.bits .or .i64 (shl .i64 x6 (IntKind.u64.wrap (wrap64 (8 - x7)))) (wrap64 ((shl .i64 1 (IntKind.u64.wrap (wrap64 (8 - x7)))) - 1))) % 256])) else (none)) else (none)) else (some x5))
def hf1 : Nat → ByteArray → List Int → List Int → List Int → Int → Int → Int → Option (List Int)
 | 0, _, _, _, _, _, _, _ => none
 | k + 1, x0, x3, x4, x5, x6, x7, x8 => if x7 ≥ 8 then (if 0 ≤ (IntKind.u64.wrap (wrap64 (x7 - 8))) then (if x5.length < 140737488355328 then (hf1 k x0 x3 x4 (x5 ++ [(shr .i64 x6 (IntKind.u64.wrap (wrap64 (x7 - 8)))) % 256]) (Go.bits .and .i64 x6 (wrap64 ((shl .i64 1 (IntKind.u64.wrap (wrap64 (x7 - 8)))) - 1))) (wrap64 (x7 - 8)) x8) else (none)) else (none)) else (hf0 k x0 x3 x4 x5 x6 x7 (wrap64 (x8 + 1)))
end
theorem hf_mono_l : ∀ k, (∀ y0 y1 y2 y3 y4 y5 y6, LeO (hf0 k y0 y1 y2 y3 y4 y5 y6) (hf0 (k + 1) y0 y1 y2 y3 y4 y5 y6)) ∧ (∀ y0 y1 y2 y3 y4 y5 y6, LeO (hf1 k y0 y1 y2 y3 y4 y5 y6) (hf1 (k + 1) y0 y1 y2 y3 y4 y5 y6))
 | 0 => ⟨fun _ _ _ _ _ _ _ r h => by simp [hf0] at h, fun _ _ _ _ _ _ _ r h => by simp [hf1] at h⟩
 | k + 1 => by
  obtain ⟨ih0, ih1⟩ := hf_mono_l k
  refine ⟨?_, ?_⟩
  · intro y0 y1 y2 y3 y4 y5 y6
    unfold hf0
    repeat' first
    | (with_reducible exact ih1 _ _ _ _ _ _ _)
    | (with_reducible exact LeO.refl _)
    | (with_reducible exact LeO.none _)
    | (with_reducible refine LeO.ite ?_ ?_)
  · intro y0 y1 y2 y3 y4 y5 y6
    unfold hf1
    repeat' first
    | (with_reducible exact ih0 _ _ _ _ _ _ _)
    | (with_reducible exact ih1 _ _ _ _ _ _ _)
    | (with_reducible exact LeO.refl _)
    | (with_reducible exact LeO.none _)
    | (with_reducible refine LeO.ite ?_ ?_)
theorem hf_mono (k : Nat) (s : ByteArray) (a b l : List Int) (x y z : Int) : LeO (hf0 k s a b l x y z) (hf0 (k + 1) s a b l x y z) := (hf_mono_l k).1 _ _ _ _ _ _ _
set_option maxHeartbeats 8000000 in
set_option maxRecDepth 100000 in
theorem huff_calls (k g : Nat) (P0_ : Nat → Prop) (u9000_ : Value) (l0 : List Int) (s : ByteArray) (r : List Int) (w0 w : World) (hB : Below w0.heap.size w0 w) (hA : Arr 62 w g codes) (ho0 : Kd.R (Kd.int .u8) 5 w w0.heap.size P0_ u9000_ l0) (h : hf0 k s lensI bitsI l0 0 0 0 = some r) :
    Calls Tryd.prog 44 #[.pointer (some ⟨g, 0, none⟩), u9000_, .string s] w fun e w' => ∃ v0_ : Value, e = .returned (v0_) ∧ Kd.R (Kd.int .u8) 5 w' w0.heap.size (fun k_ => (P0_ k_ ∨ w.heap.size ≤ k_)) v0_ r ∧ Below w0.heap.size w0 w' ∧ Kept w w' (fun k_ => P0_ k_) := by
  have HO := Aside0.mk (show Kd.R (Kd.int .u8) 5 w w0.heap.size (fun k_ => (P0_ k_ ∨ w.heap.size ≤ k_)) u9000_ l0 from Kd.R_mono ho0 (fun k_ hk => (.inl hk)))
  have HK := Aside0.mk (Kept.refl w (fun k_ => P0_ k_))
  have HW0 := Aside0.mk hB.size
  have HB := Aside0.mk hB
  have HA := Aside0.mk hA
  have H' := Aside0.mk h
  clear hB hA h ho0
  go_enter Tryd.func44, Tryd.ntmps44
  go_wp2
  go_loopg [1, 7, 8, 9] k (fun kq v1 v7 v8 v9 w' => ∃ (x5 : List Int) (x6 x7 x8 : Int), v7 = .int .i64 x6 ∧ v8 = .int .i64 x7 ∧ v9 = .int .i64 x8 ∧ Aside0 (hf0 kq s lensI bitsI x5 x6 x7 x8 = some r) ∧ Aside0 (kq ≤ k) ∧ Aside0 (Kd.R (Kd.int .u8) 5 w' w0.heap.size (fun k_ => (P0_ k_ ∨ w.heap.size ≤ k_)) v1 x5) ∧ Aside0 (Kept w w' (fun k_ => P0_ k_)) ∧ Aside0 (Below w0.heap.size w0 w') ∧ Aside0 (Arr 62 w' g codes))
  case atStart => exact ⟨l0, 0, 0, 0, rfl, rfl, rfl, H', ⟨Nat.le_refl _⟩, HO, HK, HB, HA⟩
  case round =>
    clear H' HO HK HB HA
    obtain ⟨x5, x6, x7, x8, rfl, rfl, rfl, HH, HK1, HO, HK, HB, HA⟩ := hrel
    cases gk with
    | zero => exact absurd HH.out (by simp [hf0])
    | succ k1 =>
      have H := HH.out
      clear HH
      simp only [hf0] at H
      by_cases c8 : x8 < (s.size : Int)
      · rw [if_pos c8] at H
        by_cases c9 : 0 ≤ x8
        · rw [if_pos c9] at H
          have hx : ∀ h, ((s[x8.toNat]'h).toNat : Int) = bt s x8 := bt_at s x8
          obtain ⟨x, hxx⟩ : ∃ x, x = bt s x8 := ⟨_, rfl⟩
          have hb := bt_range s x8
          rw [← hxx] at hb hx H
          rw [if_pos hb.1, if_pos (by rw [lensI_len]; omega)] at H
          have hb1 : decide (x < 257) = true := decide_eq_true (by omega)
          have hb0 : decide (0 ≤ x) = true := decide_eq_true (by omega)
          obtain ⟨hc0, hc1⟩ := code_cells HA.out x (by omega)
          obtain ⟨sz, hsz⟩ : ∃ sz, sz = rd lensI x := ⟨_, rfl⟩
          obtain ⟨bi, hbi⟩ : ∃ bi, bi = rd bitsI x := ⟨_, rfl⟩
          rw [← hsz] at H hc1
          rw [← hbi] at hc0 H
          obtain ⟨ji13, hji13⟩ : ∃ j_ : Int, (IntKind.u64.wrap sz) = j_ := ⟨_, rfl⟩
          rw [hji13] at H
          by_cases c14 : 0 ≤ ji13
          · rw [if_pos c14, if_pos (by rw [bitsI_len]; omega)] at H
            obtain ⟨ji15, hji15⟩ : ∃ j_ : Int, (shl .i64 x6 ji13) = j_ := ⟨_, rfl⟩
            rw [hji15] at H
            have hji15_ : (IntKind.i64.wrap (x6 * 2 ^ min ji13.toNat 64)) = ji15 := hji15
            have hji15y : (wrap64 (x6 * 2 ^ min ji13.toNat 64)) = ji15 := (i64_w _).symm.trans hji15_
            have H' := Aside0.mk H
            clear H hsz hbi hxx
            have c8b0 : decide (x8 < (s.size : Int)) = true := decide_eq_true c8
            have c9b0 : decide (0 ≤ x8) = true := decide_eq_true c9
            have C8 := Aside0.mk c8
            have C9 := Aside0.mk c9
            replace c8 := eq_true c8
            replace c9 := eq_true c9
            have c14b1 : decide (0 ≤ (ji13)) = true := decide_eq_true c14
            replace c14 := eq_true c14
            have hgl := HA.out.lt
            have hgn : g ≠ wr.heap.size := by omega
            go_wp2
            go_region
            all_goals go_wp2
            have n0_ := Aside0.mk (Kd.R_drew (Kd.R_alloc HO.out (.cells #[Value.int IntKind.i64 bi, Value.int IntKind.i64 sz] 47)))
            have n1_ := Aside0.mk (Kept.drew (Kept.alloc HK.out (.cells #[Value.int IntKind.i64 bi, Value.int IntKind.i64 sz] 47)))
            have n2_ := Aside0.mk (below_drew (HB.out.alloc HB.out.size (.cells #[Value.int IntKind.i64 bi, Value.int IntKind.i64 sz] 47)))
            have n3_ := Aside0.mk (Arr.drew (Arr.alloc HA.out (.cells #[Value.int IntKind.i64 bi, Value.int IntKind.i64 sz] 47)))
            clear HO HK HB HA hc0 hc1 hgl hgn
            go_loopg [1, 7, 8] k1 (fun kq v1 v7 v8 w' => ∃ (x5 : List Int) (x6 x7 : Int), v7 = .int .i64 x6 ∧ v8 = .int .i64 x7 ∧ Aside0 (hf1 kq s lensI bitsI x5 x6 x7 x8 = some r) ∧ Aside0 (kq ≤ k1) ∧ Aside0 (Kd.R (Kd.int .u8) 5 w' w0.heap.size (fun k_ => (P0_ k_ ∨ w.heap.size ≤ k_)) v1 x5) ∧ Aside0 (Kept w w' (fun k_ => P0_ k_)) ∧ Aside0 (Below w0.heap.size w0 w') ∧ Aside0 (Arr 62 w' g codes))
            case atStart => exact ⟨x5, _, _, by first | rfl | (rw [← hji15y]), rfl, H', ⟨Nat.le_refl _⟩, n0_, n1_, n2_, n3_⟩
            case round =>
              clear H' n0_ n1_ n2_ n3_ hji15 hji15_ hji15y hji13 hx hb hb0 hb1 c14 c14b1
              obtain ⟨x5, x6, x7, rfl, rfl, HH, HK2, HO, HK, HB, HA⟩ := hrel
              cases gk with
              | zero => exact absurd HH.out (by simp [hf1])
              | succ k2 =>
                have H := HH.out
                clear HH
                simp only [hf1] at H
                by_cases c21 : x7 ≥ 8
                · rw [if_pos c21] at H
                  have c21b0 : decide (8 ≤ x7) = true := decide_eq_true c21
                  clear c21
                  obtain ⟨ji22, hji22⟩ : ∃ j_ : Int, (IntKind.u64.wrap (wrap64 (x7 - 8))) = j_ := ⟨_, rfl⟩
                  rw [hji22] at H
                  by_cases c23 : 0 ≤ (ji22)
                  · rw [if_pos c23] at H
                    have c23b0 := eq_true c23
                    have c23b1 : decide (0 ≤ (ji22)) = true := decide_eq_true c23
                    clear c23
                    obtain ⟨ji24, hji24⟩ : ∃ j_ : Int, (shr .i64 x6 (ji22)) = j_ := ⟨_, rfl⟩
                    rw [hji24] at H
                    have hji24_ : (x6 / 2 ^ min (ji22).toNat 64) = ji24 := hji24
                    by_cases c25 : x5.length < 140737488355328
                    · rw [if_pos c25] at H
                      have LM := Aside0.mk c25
                      clear c25
                      obtain ⟨ji27, hji27⟩ : ∃ j_ : Int, (shl .i64 1 ji22) = j_ := ⟨_, rfl⟩
                      rw [hji27] at H
                      have hji27_ : (IntKind.i64.wrap (1 * 2 ^ min ji22.toNat 64)) = ji27 := hji27
                      have hji27y : (wrap64 (1 * 2 ^ min ji22.toNat 64)) = ji27 := (i64_w _).symm.trans hji27_
                      have hji27u : (IntKind.i64.wrap (2 ^ min ji22.toNat 64)) = ji27 := by have h_ := hji27_; rw [Int.one_mul] at h_; exact h_
                      have hji27w : (wrap64 (2 ^ min ji22.toNat 64)) = ji27 := by have h_ := hji27y; rw [Int.one_mul] at h_; exact h_
                      have H' := Aside0.mk H
                      clear H
                      go_wp2_with (first | ((with_reducible refine gate_builtin (b := .append) (xs := #[.tmp 41, .tmp 47]) rfl ?_); at_builtin; refine Kd.R_append (Kd.int .u8) (w0 := w0) w0.heap.size rfl (.tmp 41) (.tmp 47) 26 5 (.int .u8 0) 1 rfl Tryd.underlying26 info5 rfl (by decide) (by omega) u1 x5 (ji24 % 256) [.int .u8 (ji24 % 256)] (fun k_ => (P0_ k_ ∨ w.heap.size ≤ k_)) (fun _ => False) rfl rfl rfl (fun _ hk => hk.elim) (fun k_ hk => (.inr (Nat.le_trans HK.out.1 hk))) HO.out HB.out (below_size HB.out) (by have := LM.out; omega) ?_; intro v1 w1 ho hb hg hat; have n0_ := Aside0.mk ho; have n1_ := Aside0.mk (Kept.of_grown (S := (fun k_ => P0_ k_)) hg HK.out (fun k_ e_ => (HO.out.1 k_ e_))); have n2_ := Aside0.mk hb; have n3_ := Aside0.mk (Arr.grown HA.out hg (Kd.R_ne HO.out HA.out (by decide))); clear HO HK HB HA ho hb hg hat; have HO := n0_; have HK := n1_; have HB := n2_; have HA := n3_; clear n0_ n1_ n2_ n3_))
                      go_roundg k2
                      case measure => have := HK1.out; have := HK2.out; omega
                      case rel => exact ⟨_, _, _, by first | rfl | (simp; done) | (simp only [← hji27] <;> (first | rfl | simp)) | (simp [*]; done), by first | rfl | (simp; done) | (simp [*]; done), H', ⟨by have := HK1.out; have := HK2.out; omega⟩, HO, HK, HB, HA⟩
                    · rw [if_neg c25] at H
                      exact absurd H (by simp)
                  · rw [if_neg c23] at H
                    exact absurd H (by simp)
                · rw [if_neg c21] at H
                  have c21b0 : decide (8 ≤ x7) = false := decide_eq_false c21
                  clear c21
                  have H' := Aside0.mk H
                  clear H
                  go_wp2
                  go_roundg k2
                  case measure => have := HK1.out; have := HK2.out; omega
                  case rel => exact ⟨x5, x6, x7, _, rfl, rfl, rfl, H', ⟨by have := HK1.out; have := HK2.out; omega⟩, HO, HK, HB, HA⟩
          · rw [if_neg c14] at H
            exact absurd H (by simp)
        · rw [if_neg c9] at H
          exact absurd H (by simp)
      · rw [if_neg c8] at H
        have c8b0 : decide (x8 < (s.size : Int)) = false := decide_eq_false c8
        clear c8
        by_cases c29 : x7 > 0
        · rw [if_pos c29] at H
          have c29b0 : decide (0 < x7) = true := decide_eq_true c29
          clear c29
          obtain ⟨ji30, hji30⟩ : ∃ j_ : Int, (IntKind.u64.wrap (wrap64 (8 - x7))) = j_ := ⟨_, rfl⟩
          rw [hji30] at H
          by_cases c31 : 0 ≤ (ji30)
          · rw [if_pos c31] at H
            have c31b0 := eq_true c31
            have c31b1 : decide (0 ≤ (ji30)) = true := decide_eq_true c31
            clear c31
            obtain ⟨ji32, hji32⟩ : ∃ j_ : Int, (shl .i64 x6 ji30) = j_ := ⟨_, rfl⟩
            rw [hji32] at H
            have hji32_ : (IntKind.i64.wrap (x6 * 2 ^ min ji30.toNat 64)) = ji32 := hji32
            have hji32y : (wrap64 (x6 * 2 ^ min ji30.toNat 64)) = ji32 := (i64_w _).symm.trans hji32_
            obtain ⟨ji34, hji34⟩ : ∃ j_ : Int, (shl .i64 1 ji30) = j_ := ⟨_, rfl⟩
            rw [hji34] at H
            have hji34_ : (IntKind.i64.wrap (1 * 2 ^ min ji30.toNat 64)) = ji34 := hji34
            have hji34y : (wrap64 (1 * 2 ^ min ji30.toNat 64)) = ji34 := (i64_w _).symm.trans hji34_
            have hji34u : (IntKind.i64.wrap (2 ^ min ji30.toNat 64)) = ji34 := by have h_ := hji34_; rw [Int.one_mul] at h_; exact h_
            have hji34w : (wrap64 (2 ^ min ji30.toNat 64)) = ji34 := by have h_ := hji34y; rw [Int.one_mul] at h_; exact h_
            by_cases c35 : x5.length < 140737488355328
            · rw [if_pos c35] at H
              have LM := Aside0.mk c35
              clear c35
              obtain rfl := Option.some.inj H
              clear H
              go_wp2_with (first | ((with_reducible refine gate_builtin (b := .append) (xs := #[.tmp 60, .tmp 69]) rfl ?_); at_builtin; refine Kd.R_append (Kd.int .u8) (w0 := w0) w0.heap.size rfl (.tmp 60) (.tmp 69) 26 5 (.int .u8 0) 1 rfl Tryd.underlying26 info5 rfl (by decide) (by omega) u1 x5 ((Go.bits .or .i64 ji32 (wrap64 (ji34 - 1))) % 256) [.int .u8 ((Go.bits .or .i64 ji32 (wrap64 (ji34 - 1))) % 256)] (fun k_ => (P0_ k_ ∨ w.heap.size ≤ k_)) (fun _ => False) rfl rfl rfl (fun _ hk => hk.elim) (fun k_ hk => (.inr (Nat.le_trans HK.out.1 hk))) HO.out HB.out (below_size HB.out) (by have := LM.out; omega) ?_; intro v1 w1 ho hb hg hat; have n0_ := Aside0.mk ho; have n1_ := Aside0.mk (Kept.of_grown (S := (fun k_ => P0_ k_)) hg HK.out (fun k_ e_ => (HO.out.1 k_ e_))); have n2_ := Aside0.mk hb; have n3_ := Aside0.mk (Arr.grown HA.out hg (Kd.R_ne HO.out HA.out (by decide))); clear HO HK HB HA ho hb hg hat; have HO := n0_; have HK := n1_; have HB := n2_; have HA := n3_; clear n0_ n1_ n2_ n3_))
              go_ret
              exact ⟨_, rfl, HO.out, HB.out, HK.out⟩
            · rw [if_neg c35] at H
              exact absurd H (by simp)
          · rw [if_neg c31] at H
            exact absurd H (by simp)
        · rw [if_neg c29] at H
          have c29b0 : decide (0 < x7) = false := decide_eq_false c29
          clear c29
          obtain rfl := Option.some.inj H
          clear H
          go_wp2
          go_ret
          exact ⟨_, rfl, HO.out, HB.out, HK.out⟩
end Go.Proofs.YthflimnpiglgbaaDoor.LibHuffB
