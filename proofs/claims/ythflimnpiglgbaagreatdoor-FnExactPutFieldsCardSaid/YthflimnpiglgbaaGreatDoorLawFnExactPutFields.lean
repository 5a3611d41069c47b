/- Written by a program of this session, out of the translation: functions as plain Lean functions, and that the machine's calls answer as they do. Condition: none beyond each theorem's own. -/
import Derived.Test.YthflimnpiglgbaaGreatDoorRows
import Derived.Test.YthflimnpiglgbaaGreatDoorPg7
import Derived.Test.YthflimnpiglgbaaGreatDoorPg8
import Derived.Test.YthflimnpiglgbaaGreatDoorPg1
import Derived.WalkKit
import Derived.ProofKit
import Derived.OpenShut
import Derived.ShutString
import Derived.ChangeOld
import Derived.Below
import Derived.SizedLaws
import Derived.LaidMore
import Derived.Stop.Joined
import Derived.Lib.LaidTab
import Derived.Stop.LaidErr
import Derived.SevenTiedAt
import Derived.Test.YthflimnpiglgbaaGreatDoorTie
import Derived.Test.YthflimnpiglgbaaGreatDoorCards
import Derived.Lib.SmallJoins
namespace Go.Proofs.YthflimnpiglgbaaGreatDoor.fnExactPutFields
open Go.ChangeShapes Go.WideShapes Go.ChangeAt Go.RowKit Go.Proofs.YthflimnpiglgbaaGreatDoor.A
open Go.Proofs.YthflimnpiglgbaaGreatDoorW.PrintWords Go.Proofs.YthflimnpiglgbaaGreatDoorW.PrintLast
open Go.ChangeMaps (open_string shut_string)
set_option linter.unusedVariables false
theorem own : ownKnob Tryz.prog.godebug = none := by kernel_rfl
theorem laidOut : laidOutB Tryz.prog = true := by kernel_rfl
theorem el26 {H : Type} {enc : TypeId × Value → H} {w : World} {base : Nat} {spare : Nat → Bool} {held : Bool} (n : Nat) (cs : List Value) (y : DataW H × List MemPlace) (h : DataW.trod enc Tryz.prog w base spare held n 26 cs = some y) : ∃ x : S26, (k26).K w x cs ∧ (x.f0.size ≤ 9223372036854775807 ∧ x.f1.size ≤ 9223372036854775807) := by
 obtain ⟨v0, v1, y0, y1, m, rfl, h0, h1⟩ := Go.Proofs.YthflimnpiglgbaaGreatDoorM.PrintMine.el2 Tryz.underlying26 (by kernel_rfl) (by kernel_rfl) h
 obtain ⟨a0, e0, _, hw0⟩ := DataW.trod_string Tryz.underlying9 h0
 obtain rfl := (List.cons.inj e0).1
 obtain ⟨a1, e1, _, hw1⟩ := DataW.trod_string Tryz.underlying9 h1
 obtain rfl := (List.cons.inj e1).1
 exact ⟨⟨a0, a1⟩, k26_mk w ⟨a0, a1⟩, ⟨hw0, hw1⟩⟩
/-- The heap that the start-up code leaves meets the condition. -/
theorem door_met (os : Os) (args : Array Value) : laidMetH Tryz.prog Rows.fnExactPutFieldsRow.laid ((LibShaped.laidOver (World.doorLaid Tryz.prog 72 os) [(3, Rows.laid_unicode_utf8_first)]).forCall (fun _ _ => 0) ⟨#[], args, []⟩).memory :=
 laidMetH_of_parts3 (fuel := 8) (laidMet_of_run' 8 (by kernel_rfl) (by kernel_rfl)) (by kernel_rfl) (by kernel_rfl)
set_option maxRecDepth 100000 in
theorem lifted (os : Os) (started : os.Started) (H : Type) (enc : TypeId × Value → H) :
  ReturnsInHanded {} Tryz.checked os 4 .any (fun w args => (Rows.fnExactPutFieldsSpec.pre enc Tryz.prog Tryz.f4 Rows.fnExactPutFieldsRow.domain false w args ∧ laidMetH Tryz.prog Rows.fnExactPutFieldsRow.laid w) ∧ sizedMet enc Tryz.prog Tryz.f4 (OpenSpec.ofChange Rows.fnExactPutFieldsSpec) false w args) (Rows.fnExactPutFieldsSpec.post enc Tryz.prog Tryz.f4 false true false false) := by
 refine LibShaped.returnsInHanded_and_shaped (C := Tryz.checked) (X := fun w _ => laidMetH Tryz.prog Rows.fnExactPutFieldsRow.laid w) (fun _ _ _ hh h => h.of_heap hh) own started (by kernel_rfl) Tryz.func4
  (ChangeSpec.witness_shaped (enc := enc) (C := Tryz.checked) (os := os) (X := fun w _ => laidMetH Tryz.prog Rows.fnExactPutFieldsRow.laid w) false (LibShaped.laidOver (World.doorLaid Tryz.prog 72 os) [(3, Rows.laid_unicode_utf8_first)]) #[.agg #[.int .i64 0, .slice none 0 0], .slice none 0 0] 8 rfl (World.shaped_of_RefB (by kernel_rfl) (by kernel_rfl)) (by kernel_rfl) (by kernel_rfl) (by kernel_rfl) (door_met os _)) ?_
 intro W base args ds gs before hval0 hW hcnd hsz0 hLS _
 obtain ⟨hL, hsh⟩ := hLS
 have ht : A.TB W := Tryz.laysM138.s1_3 W hsh
 have hval : ∀ (j : Nat) t v, Tryz.f4.params[j]? = some t → args[j]? = some v → Value.okWide Tryz.prog W .any base t v := hval0
 have hW' := hW
 obtain ⟨p, q, hA0, hV, rfl, hfz, hnd⟩ := hW
 have hA : DataW.TrodAll enc Tryz.prog W 0 (fun _ => true) true Tryz.f4.params.toList args.toList ds p := hA0
 rw [Tryz.params4] at hA hval
 obtain ⟨v0, vs0, d0, ds0, p0, q0, hargs, rfl, rfl, h0, r0⟩ := trodAll_cons hA
 obtain ⟨v1, vs1, d1, ds1, p1, q1, rfl, rfl, rfl, h1, r1⟩ := trodAll_cons r0
 obtain ⟨rfl, rfl, rfl⟩ := trodAll_nil r1
 obtain rfl : args = #[v0, v1] := by cases args; simp_all
 obtain ⟨rfl, rfl⟩ := trodVars_none hV
 have k0 := h0
 have lt0 : ∀ x ∈ p0, x.block < W.heap.size := by obtain ⟨m, hm⟩ := k0; exact DataW.trod_lt m _ _ _ hm
 obtain ⟨v0_0, v0_1, y0_0, y0_1, n0, rfl, _, _, t0_0, t0_1⟩ := Go.Joins.open_agg2 Tryz.underlying24 (by kernel_rfl) (by kernel_rfl) (hval 0 24 v0 rfl rfl) h0
 obtain ⟨a0_0, e0_0, _, w0_0⟩ := DataW.trod_int Tryz.underlying3 t0_0
 obtain rfl := (List.cons.inj e0_0).1
 obtain ⟨A0_1, c0_1, l0_1, e0_1, hr0_1, hc0_1, hm0_1, hw0_1⟩ := Go.Proofs.YthflimnpiglgbaaGreatDoorM.PrintMine.row_of_trod k26 (fun x : S26 => x.f0.size ≤ 9223372036854775807 ∧ x.f1.size ≤ 9223372036854775807) Tryz.underlying22 (by kernel_rfl) el26 t0_1
 obtain rfl := (List.cons.inj e0_1).1
 have k1 := h1
 have lt1 : ∀ x ∈ p1, x.block < W.heap.size := by obtain ⟨m, hm⟩ := k1; exact DataW.trod_lt m _ _ _ hm
 obtain ⟨a1_, len1_, cap1_, rfl⟩ := okWide_slice Tryz.underlying22 (hval 1 22 v1 rfl rfl)
 obtain ⟨fuel1, hf1⟩ := h1
 have t1 : DataW.trod enc Tryz.prog W 0 (fun _ => true) true fuel1 22 [.slice a1_ len1_ cap1_] = some (d1, p1) := hf1
 obtain ⟨A1, c1, l1, e1, hr1, hc1, hm1, hw1⟩ := Go.Proofs.YthflimnpiglgbaaGreatDoorM.PrintMine.row_of_trod k26 (fun x : S26 => x.f0.size ≤ 9223372036854775807 ∧ x.f1.size ≤ 9223372036854775807) Tryz.underlying22 (by kernel_rfl) el26 t1
 obtain ⟨rfl, rfl, rfl⟩ := Value.slice.inj (List.cons.inj e1).1
 obtain ⟨k, h⟩ := Pure.FnExactPutFields a0_0 l0_1 l1 w0_0 hm0_1 hw0_1 hm1 hw1
 refine (laws_FnExactPutFields.calls k a0_0 _ _ l0_1 _ _ l1 true W hr0_1 hc0_1 hr1 hc1 ht h).mono fun e W' ⟨he, hd⟩ => ?_
 have bel : Below W.heap.size W W' := hd
 subst he
 exact ⟨_, rfl, _, _, _, [], _, [], hW', trodAll_mk1 (shut_bool Tryz.underlying4 _), (trodAll_cons_mk (Below.trod laidOut (by kernel_rfl) (of_decide_eq_true (by kernel_rfl)) k0 bel lt0) (trodAll_cons_mk (Below.trod laidOut (by kernel_rfl) (of_decide_eq_true (by kernel_rfl)) k1 bel lt1) trodAll_mk0)), rfl, bel.frame _, fun h => by cases h⟩
theorem over : Rows.fnExactPutFieldsRow.holds Tryz.pinned (OpenSpec.ofChange Rows.fnExactPutFieldsSpec) :=
 OpenClaim.holds_of_wide 4 Tryz.f4 rfl rfl rfl rfl rfl rfl rfl ⟨rfl, rfl, rfl, rfl, rfl⟩ rfl rfl rfl rfl rfl (by kernel_rfl) Tryz.func4 (by kernel_rfl)
  (of_decide_eq_true (by kernel_rfl)) (by unfold Func.isWrapper; first | (rw [if_pos (by decide +kernel)]; kernel_rfl) | (rw [if_neg (by decide +kernel)]; exact ⟨rfl, rfl⟩))
  (fun os started H enc _ => lifted os started H enc)
theorem proved : Rows.FnExactPutFieldsCardSaid :=
 Claim7.holds_tied_plain_at .later [] [.data, .data, .data, .data, .sentinel, .sentinel, .pinned] true (true, "4be2df530e6e952150ca36aac7624be81e3069ca14346cf7c2adc2c82d6cd4c6") true
  over (fun _ h => by cases h) (by kernel_rfl) (fun _ h => by cases h) fnExactPutFields_row_tie rfl ⟨rfl, rfl⟩ (by kernel_rfl) rfl
  (fun f fn hf hfn => by
   obtain rfl : f = 4 := Option.some.inj ((show Tryz.prog.funcNamed "loop.example/g00199/laws.FnExactPutFields" = some 4 by kernel_rfl).symm.trans hf) |>.symm
   obtain rfl : fn = Tryz.f4 := (Option.some.inj (Tryz.func4.symm.trans hfn)).symm
   exact ⟨by kernel_rfl, fun j t ht => by
    rw [Tryz.params4] at ht
    have hm : t ∈ [24, 22] := by simpa using Array.mem_of_getElem? ht
    have hall : ([24, 22].all fun u => !Tryz.prog.wantsStandIn u) = true := by kernel_rfl
    exact (show Tryz.prog.wantsStandIn t = false by simpa using List.all_eq_true.1 hall t hm)⟩)
  (by kernel_rfl)
#print axioms proved
end Go.Proofs.YthflimnpiglgbaaGreatDoor.fnExactPutFields
namespace Go.Proofs.YthflimnpiglgbaaGreatDoor
/-- The row, under a short name, for the claim. -/
theorem fnExactPutFields_holds : Rows.FnExactPutFieldsCardSaid := fnExactPutFields.proved
end Go.Proofs.YthflimnpiglgbaaGreatDoor
