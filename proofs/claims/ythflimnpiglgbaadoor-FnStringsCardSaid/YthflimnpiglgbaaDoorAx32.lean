/- Written by a program of this session, out of the translation: functions as plain Lean functions, and that the machine's calls answer as they do. Condition: none beyond each theorem's own. -/
import Derived.Test.YthflimnpiglgbaaDoorAx0
import Derived.Test.YthflimnpiglgbaaDoorAx1
import Derived.Test.YthflimnpiglgbaaDoorAx31
import Derived.Test.YthflimnpiglgbaaDoorLibK
namespace Go.Proofs.YthflimnpiglgbaaDoor.A
open Go.RowKit Go.Proofs.YthflimnpiglgbaaDoorW.PrintWords Go.Proofs.YthflimnpiglgbaaDoorW.PrintLast Go.Proofs.YthflimnpiglgbaaDoorW.PrintMore
attribute [local go_sem] max2_int min2_int max_two min_two max_three min_three max_four min_four   -- for this text's walks alone
set_option linter.unusedVariables false
set_option linter.unusedSimpArgs false

/-! ### impl_putString: function 53 (by hand: the shelf's contract) -/
def impl_putString.f (k : Nat) (l0 : List Int) (a1 : ByteArray) : Option (List Int) := if a1.size ≤ 140737488355328 then (if Go.Proofs.YthflimnpiglgbaaDoor.LibHuff.hlen a1 < (a1.size : Int) then ((impl_putPrefix.f k l0 7 128 (Go.Proofs.YthflimnpiglgbaaDoor.LibHuff.hlen a1)).bind fun t => Go.Proofs.YthflimnpiglgbaaDoor.LibHuffB.hf0 k a1 Go.Proofs.YthflimnpiglgbaaDoor.LibHuff.lensI Go.Proofs.YthflimnpiglgbaaDoor.LibHuff.bitsI t 0 0 0) else ((impl_putPrefix.f k l0 7 0 (a1.size : Int)).bind fun t => (if t.length + a1.size ≤ 140737488355328 then some (t ++ bytesOf a1) else none))) else none
theorem impl_putString.mono : ∀ a0 a1 k, LeO (impl_putString.f k a0 a1) (impl_putString.f (k + 1) a0 a1) := by
 intro a0 a1 k
 unfold impl_putString.f
 refine LeO.ite (LeO.ite (LeO.bind (impl_putPrefix.mono _ _ _ _ _) (fun _ => Go.Proofs.YthflimnpiglgbaaDoor.LibHuffB.hf_mono _ _ _ _ _ _ _ _)) (LeO.bind (impl_putPrefix.mono _ _ _ _ _) (fun _ => LeO.refl _))) (LeO.none _)
set_option maxHeartbeats 8000000 in
set_option maxRecDepth 100000 in
theorem impl_putString.calls (k : Nat) (P0_ : Nat → Prop) (u9000_ : Value) (l0 : List Int) (a1 : ByteArray) (r : List Int) (w0 w : World) (hB : Below w0.heap.size w0 w) (ho0 : Kd.R (Kd.int .u8) 5 w w0.heap.size P0_ u9000_ l0) (ht : TB w) (h : impl_putString.f k l0 a1 = some r) :
  Calls Tryd.prog 53 #[u9000_, .string a1] w fun e w' => ∃ v0_ : Value, e = .returned (v0_) ∧ Kd.R (Kd.int .u8) 5 w' w0.heap.size (fun k_ => (P0_ k_ ∨ w.heap.size ≤ k_)) v0_ r ∧ Below w0.heap.size w0 w' ∧ Kept w w' (fun k_ => P0_ k_) := by
 obtain ⟨m, hm⟩ := ht
 have HM := Aside0.mk hm
 have HB := Aside0.mk hB
 have HO := Aside0.mk (Kd.R_mono (Kd.R_bound ho0) (fun k hk => (⟨hk.1, hk.2.2.1⟩ : P0_ k ∧ k < w.heap.size)))
 clear hm hB ho0
 unfold impl_putString.f at h
 by_cases hs : a1.size ≤ 140737488355328
 ·
  rw [if_pos hs] at h
  have HS := Aside0.mk hs
  clear hs
  obtain ⟨n, hn⟩ : ∃ n, n = Go.Proofs.YthflimnpiglgbaaDoor.LibHuff.hlen a1 := ⟨_, rfl⟩
  rw [← hn] at h
  have HN := Aside0.mk hn
  clear hn
  by_cases hlt : n < (a1.size : Int)
  ·
   rw [if_pos hlt] at h
   have hlt' : decide (n < (a1.size : Int)) = true := decide_eq_true hlt
   obtain ⟨t, h1, h2⟩ := Option.bind_eq_some_iff.mp h
   have H1 := Aside0.mk h1
   have H2 := Aside0.mk h2
   clear h h1 h2 hlt
   go_enter Tryd.func53, Tryd.ntmps53
   go_wp2_with (first | (go_at_call 41; (with_reducible refine (Go.Proofs.YthflimnpiglgbaaDoor.LibCodes.codesOf_calls m _ HM).mono ?_); rintro e w1 ⟨g, rfl, hg, hA, hB1⟩; have HA := Aside0.mk hA; have HB1 := Aside0.mk hB1; have HG := Aside0.mk hg; clear hA hB1 hg) | (go_at_call 42; (with_reducible refine (Go.Proofs.YthflimnpiglgbaaDoor.LibHuff.huffLen_calls _ _ _ HA.out HS.out).mono ?_); rintro e w2 ⟨rfl, ⟨nd, rfl⟩⟩; rw [← HN.out]) | (go_at_call 63; (with_reducible refine (impl_putPrefix.calls k (fun k => P0_ k ∧ k < w.heap.size) _ l0 7 128 n t w0 _ (below_then HB.out HB.out.size (pw_below_drewN HB1.out _)) (Kd.R_drewN (Kd.R_below HO.out HB1.out) _) H1.out).mono ?_); rintro e w3 ⟨v3, rfl, hR3, hB3, hK3⟩; have HR3 := Aside0.mk hR3; have HB3 := Aside0.mk hB3; have HK3 := Aside0.mk hK3; have HA3 := Aside0.mk (show Go.Proofs.YthflimnpiglgbaaDoor.LibLens.Arr 62 w3 g Go.Proofs.YthflimnpiglgbaaDoor.LibLens.codes from (hK3.2 g HA.out.lt (fun e_ => by have h1_ := e_.2; have h2_ := HG.out; omega)).trans HA.out); clear hR3 hB3 hK3) | (go_at_call 44; (with_reducible refine (Go.Proofs.YthflimnpiglgbaaDoor.LibHuffB.huff_calls k _ _ _ t a1 r w0 _ HB3.out HA3.out HR3.out H2.out).mono ?_); rintro e w4 ⟨v4, rfl, hR4, hB4, hK4⟩; have HR4 := Aside0.mk hR4; have HB4 := Aside0.mk hB4; have HK4 := Aside0.mk hK4; clear hR4 hB4 hK4))
   go_ret
   refine ⟨_, rfl, Kd.R_mono HR4.out (fun k hk => ?_), HB4.out, ?_⟩
   ·
    have s1 : w.heap.size ≤ w1.heap.size := HB1.out.size
    have s2 : w1.heap.size ≤ w3.heap.size := HK3.out.1
    rcases hk with (hk | hk) | hk
    ·
     exact .inl hk.1
    ·
     exact .inr (Nat.le_trans s1 hk)
    ·
     exact .inr (Nat.le_trans s1 (Nat.le_trans s2 hk))
   ·
    have s1 : w.heap.size ≤ w1.heap.size := HB1.out.size
    refine Kept.then_ (Kept.then_ (Kept.drewN (Kept.of_below HB1.out (fun k_ => P0_ k_)) _) HK3.out (fun k hk => .inl hk.1)) HK4.out (fun k hk => ?_)
    rcases hk with hk | hk
    ·
     exact .inl hk.1
    ·
     exact .inr (Nat.le_trans s1 hk)
  ·
   rw [if_neg hlt] at h
   have hlt' : decide (n < (a1.size : Int)) = false := decide_eq_false hlt
   obtain ⟨t, h1, h2⟩ := Option.bind_eq_some_iff.mp h
   by_cases hl : t.length + a1.size ≤ 140737488355328
   ·
    rw [if_pos hl] at h2
    obtain rfl := Option.some.inj h2
    have H1 := Aside0.mk h1
    have HL := Aside0.mk hl
    clear h h1 h2 hlt hl
    go_enter Tryd.func53, Tryd.ntmps53
    go_wp2_with (first | (go_at_call 41; (with_reducible refine (Go.Proofs.YthflimnpiglgbaaDoor.LibCodes.codesOf_calls m _ HM).mono ?_); rintro e w1 ⟨g, rfl, hg, hA, hB1⟩; have HA := Aside0.mk hA; have HB1 := Aside0.mk hB1; have HG := Aside0.mk hg; clear hA hB1 hg) | (go_at_call 42; (with_reducible refine (Go.Proofs.YthflimnpiglgbaaDoor.LibHuff.huffLen_calls _ _ _ HA.out HS.out).mono ?_); rintro e w2 ⟨rfl, ⟨nd, rfl⟩⟩; rw [← HN.out]) | (go_at_call 63; (with_reducible refine (impl_putPrefix.calls k (fun k => P0_ k ∧ k < w.heap.size) _ l0 7 0 _ t w0 _ (below_then HB.out HB.out.size (pw_below_drewN HB1.out _)) (Kd.R_drewN (Kd.R_below HO.out HB1.out) _) H1.out).mono ?_); rintro e w3 ⟨v3, rfl, hR3, hB3, hK3⟩; have HR3 := Aside0.mk hR3; have HB3 := Aside0.mk hB3; have HK3 := Aside0.mk hK3; clear hR3 hB3 hK3) | ((with_reducible refine gate_builtin (b := .append) (xs := #[.tmp 24, .tmp 25]) rfl ?_); at_builtin; refine Go.Proofs.YthflimnpiglgbaaDoor.LibStr.R_append_str (w0 := w0) w0.heap.size rfl (.tmp 24) (.tmp 25) 26 9 5 rfl Tryd.underlying26 Tryd.underlying9 info5 v3 t a1 (fun k_ => (P0_ k_ ∧ k_ < w.heap.size) ∨ w1.heap.size ≤ k_) rfl rfl (fun k_ hk => .inr (Nat.le_trans HK3.out.1 hk)) HR3.out HB3.out HB3.out.size HL.out ?_; intro v4 w4 ho hb hg hat; have HR4 := Aside0.mk ho; have HB4 := Aside0.mk hb; have HG4 := Aside0.mk hg; clear ho hb hg hat))
    go_ret
    have s1 : w.heap.size ≤ w1.heap.size := HB1.out.size
    refine ⟨_, rfl, Kd.R_mono HR4.out (fun k hk => ?_), HB4.out, ?_⟩
    ·
     rcases hk with hk | hk
     ·
      exact .inl hk.1
     ·
      exact .inr (Nat.le_trans s1 hk)
    ·
     refine Kept.of_grown HG4.out (Kept.then_ (Kept.drewN (Kept.of_below HB1.out (fun k_ => P0_ k_)) _) HK3.out (fun k hk => .inl hk.1)) (fun k hk => ?_)
     rcases HR3.out.1 k hk with h | h
     ·
      exact .inl h.1
     ·
      exact .inr (Nat.le_trans s1 h)
   ·
    rw [if_neg hl] at h2
    cases h2
 ·
  rw [if_neg hs] at h
  cases h

/-! ### slices_Clone_byte_byte: function 54 -/
def slices_Clone_byte_byte.f (l0 : List Int) : Option (List Int) := (some (([] : List Int) : List Int)).bind fun y371 => (if y371.length + l0.length < 140737488355328 then (some (y371 ++ l0)) else (none))
set_option maxHeartbeats 8000000 in
set_option maxRecDepth 100000 in
theorem slices_Clone_byte_byte.calls (A0 : Option Addr) (c0 : Nat) (l0 : List Int) (r : List Int) (w : World) (hr0 : Kd.C (Kd.int .u8) w A0 l0.length l0) (hc0 : l0.length ≤ c0) (h : slices_Clone_byte_byte.f l0 = some r) :
  Calls Tryd.prog 54 #[.slice A0 l0.length c0] w fun e w' => ∃ v0_ : Value, e = .returned (v0_) ∧ Kd.R (Kd.int .u8) 5 w' w.heap.size (fun _ => True) v0_ r ∧ Below w.heap.size w w' := by
 have hnil26eql := fun (W_ : World) (a_ : Option Addr) (n_ c_ : Nat) => Go.Proofs.YthflimnpiglgbaaDoorM.PrintMine.run_eql_nil (P := Tryd.prog) W_ Tryd.underlying26 a_ n_ c_
 have HR0 := Aside0.mk hr0
 have HC0 := Aside0.mk hc0
 clear hr0 hc0
 have HB := Aside0.mk (Below.refl w.heap.size w)
 have H : ((some (([] : List Int) : List Int)).bind fun y371 => (if y371.length + l0.length < 140737488355328 then (some (y371 ++ l0)) else (none))) = some r := h
 clear h
 rcases A0 with _ | A0x
 ·
  obtain rfl := Go.Proofs.YthflimnpiglgbaaDoorM.PrintMine.C_none HR0.out
  have H1 : (some ([] : List Int)) = some r := by first | (simpa using H) | exact H
  clear H
  have H := H1
  clear H1
  obtain rfl := Option.some.inj H
  go_enter Tryd.func54, Tryd.ntmps54
  go_wp2
  go_ret
  exact ⟨_, by first | rfl | (simp [errW_none, errW_some] <;> rfl) | (simp [*, errW_none, errW_some] <;> rfl), by first | exact Kd.R_nil _ _ _ _ _ | exact Kd.N_nil _ _ _ _ _ | exact Kd.V_nil _ _ _ _ _ | exact Kd.Q_nil _ _ _ _ _ | exact Kd.S_nil _ _ _ _ _, by repeat (first | (with_reducible first | exact HB.out | apply below_alloc | apply pw_below_drewN | apply below_drew1) | exact HB.out)⟩
 ·
  skip
  obtain ⟨y371, hy371⟩ : ∃ y_ : List Int, y_ = (([] : List Int)) := ⟨_, rfl⟩
  replace H : (if y371.length + l0.length < 140737488355328 then (some (y371 ++ l0)) else (none)) = some r := by first | (rw [hy371]; with_reducible exact H) | (have H2_ := (Option.bind_some _ _).symm.trans H; rw [hy371]; with_reducible exact H2_) | (have H2_ := (Option.bind_some _ _).symm.trans H; with_reducible exact H2_) | with_reducible exact H | (rw [hy371]; exact H) | exact H
  have Ny371 := Aside0.mk hy371
  clear hy371
  by_cases c2 : y371.length + l0.length < 140737488355328
  ·
   rw [if_pos c2] at H
   have LMc2 := Aside0.mk c2
   clear c2
   obtain ⟨y374, hy374⟩ : ∃ y_ : List Int, y_ = (y371 ++ l0) := ⟨_, rfl⟩
   replace H : (some y374) = some r := by first | (rw [hy374]; with_reducible exact H) | (have H2_ := (Option.bind_some _ _).symm.trans H; rw [hy374]; with_reducible exact H2_) | (have H2_ := (Option.bind_some _ _).symm.trans H; with_reducible exact H2_) | with_reducible exact H | (rw [hy374]; exact H) | exact H
   have Ny374 := Aside0.mk hy374
   clear hy374
   obtain rfl := Option.some.inj H
   go_enter Tryd.func54, Tryd.ntmps54
   go_wp2_with (first | ((with_reducible refine gate_dst (N := 5) rfl ?_); refine Kd.R_lit (Kd.int .u8) _ 5 ?hg (N := 5) ?hd (xs := ([] : List Int)) (inner := []) (ok := fun _ => True) (okp := fun _ => True) ?hr ?hp (fun _ hk => hk) trivial (Below.refl _ _) (Nat.le_refl _) (by simp) ?_; (case hd => rfl); (case hg => rfl); (case hr => first | (go_simp; done) | (go_simp; rfl)); (case hp => exact (Reps.none _ _)); intro v372 w3 ho4 hb hg_ hnew_; clear hg_ hnew_; (first | rw [← Ny371.out] at ho4 | (simp only [Int.reduceToNat] at ho4; rw [← Ny371.out] at ho4)); have n0_ := Aside0.mk (Kd.R_lower ho4 (below_size (by repeat (first | (with_reducible first | exact HB.out | apply below_alloc | apply pw_below_drewN | apply below_drew1) | exact HB.out)))); have n1_ := Aside0.mk (below_step (by repeat (first | (with_reducible first | exact HB.out | apply below_alloc | apply pw_below_drewN | apply below_drew1) | exact HB.out)) hb); clear HB; have HO373 := n0_; have HB := n1_; clear n0_ n1_; clear hb ho4) | ((with_reducible refine gate_builtin (b := .append) (xs := #[.tmp 5, .tmp 6]) rfl ?_); at_builtin; refine Kd.R_append_rows (Kd.int .u8) (w0 := w) w.heap.size rfl (.tmp 5) (.tmp 6) 26 5 (.int .u8 0) 1 rfl Tryd.underlying26 info5 rfl (by decide) (by omega) v372 y371 l0 _ _ _ (fun _ => True) (fun _ => False) rfl rfl ?aO ?aR (fun _ _ h => h) (fun _ h => h.elim) ?aF ?aB ?aS ?aL ?_; (case aR => repeat (first | exact (Kd.C_below HR0.out HB.out) | (with_reducible refine Kd.C_alloc ?_ _) | (with_reducible refine Kd.C_drewN ?_ _) | (with_reducible refine Kd.C_drew ?_))); (case aB => exact (by repeat (first | (with_reducible first | exact HB.out | apply below_alloc | apply pw_below_drewN | apply below_drew1) | exact HB.out))); (case aF => exact (fun _ _ => trivial)); (case aO => exact (by (with_reducible repeat (first | apply Kd.R_alloc | apply Kd.R_drewN | apply Kd.R_drew)); exact HO373.out)); (case aS => exact (below_size (by repeat (first | (with_reducible first | exact HB.out | apply below_alloc | apply pw_below_drewN | apply below_drew1) | exact HB.out)))); (case aL => have := LMc2.out; omega); intro v375 w5 ho hb hg hat; (first | (with_reducible rw [← Ny374.out] at ho) | (simp only [Int.reduceToNat] at ho; with_reducible rw [← Ny374.out] at ho) | rw [← Ny374.out] at ho); have n0_ := Aside0.mk (hb); have n1_ := Aside0.mk (ho); clear HB; clear HO373; have HB := n0_; have HO376 := n1_; clear n0_ n1_; clear ho hb hg hat))
   go_ret
   exact ⟨_, by first | rfl | (simp [errW_none, errW_some] <;> rfl) | (simp [*, errW_none, errW_some] <;> rfl), by (with_reducible repeat (first | apply Kd.R_alloc | apply Kd.R_drewN | apply Kd.R_drew)); exact HO376.out, by repeat (first | (with_reducible first | exact HB.out | apply below_alloc | apply pw_below_drewN | apply below_drew1) | exact HB.out)⟩
  ·
   rw [if_neg c2] at H
   exact absurd H (by simp)

end Go.Proofs.YthflimnpiglgbaaDoor.A
