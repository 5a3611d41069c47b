/- Written by a program of this session, out of the translation: functions as plain Lean functions, and that the machine's calls answer as they do. Condition: none beyond each theorem's own. -/
import Derived.Test.YtfcgadokmbooaaaDoorRows
import Derived.Test.YtfcgadokmbooaaaDoorAx15
import Derived.Test.YtfcgadokmbooaaaDoorPureFnExactFindField
import Derived.Test.YtfcgadokmbooaaaDoorMine
import Derived.WalkKit
import Derived.ProofKit
import Derived.OpenShut
import Derived.ShutString
import Derived.ChangeOld
import Derived.Below
import Derived.SizedLaws
import Derived.LaidMore
import Derived.Stop.Joined
import Derived.Lib.LaidTab
import Derived.Stop.LaidErr
import Derived.SevenTiedAt
import Derived.Test.YtfcgadokmbooaaaDoorLibShaped
import Derived.Test.YtfcgadokmbooaaaDoorTie
import Derived.Test.YtfcgadokmbooaaaDoorCards
import Derived.Lib.SmallJoins
namespace Go.Proofs.YtfcgadokmbooaaaDoor.fnExactFindField
open Go.ChangeShapes Go.WideShapes Go.ChangeAt Go.RowKit Go.Proofs.YtfcgadokmbooaaaDoor.A
open Go.Proofs.YtfcgadokmbooaaaDoorW.PrintWords Go.Proofs.YtfcgadokmbooaaaDoorW.PrintLast
open Go.ChangeMaps (open_string shut_string)
set_option linter.unusedVariables false
theorem own : ownKnob Tryd.prog.godebug = none := by kernel_rfl
theorem laidOut : laidOutB Tryd.prog = true := by kernel_rfl
theorem el39 {H : Type} {enc : TypeId × Value → H} {w : World} {base : Nat} {spare : Nat → Bool} {held : Bool} (n : Nat) (cs : List Value) (y : DataW H × List MemPlace) (h : DataW.trod enc Tryd.prog w base spare held n 39 cs = some y) : ∃ x : S39, (k39).K w x cs ∧ (x.f0.size ≤ 9223372036854775807 ∧ x.f1.size ≤ 9223372036854775807) := by
 obtain ⟨v0, v1, y0, y1, m, rfl, h0, h1⟩ := Go.Proofs.YtfcgadokmbooaaaDoorM.PrintMine.el2 Tryd.underlying39 (by kernel_rfl) (by kernel_rfl) h
 obtain ⟨a0, e0, _, hw0⟩ := DataW.trod_string Tryd.underlying9 h0
 obtain rfl := (List.cons.inj e0).1
 obtain ⟨a1, e1, _, hw1⟩ := DataW.trod_string Tryd.underlying9 h1
 obtain rfl := (List.cons.inj e1).1
 exact ⟨⟨a0, a1⟩, k39_mk w ⟨a0, a1⟩, ⟨hw0, hw1⟩⟩
/-- The heap that the start-up code leaves meets the condition. -/
theorem door_met (os : Os) (args : Array Value) : laidMetH Tryd.prog Rows.fnExactFindFieldRow.laid ((LibShaped.laidWorld Tryd.prog os [(2, Rows.laid_unicode_utf8_acceptRanges), (1, Rows.laid_unicode_utf8_first)]).forCall (fun _ _ => 0) ⟨#[], args, []⟩).memory :=
 laidMetH_of_parts3 (fuel := 8) (laidMet_of_run' 8 (by kernel_rfl) (by kernel_rfl)) (by kernel_rfl) (by kernel_rfl)
set_option maxRecDepth 100000 in
theorem lifted (os : Os) (started : os.Started) (H : Type) (enc : TypeId × Value → H) :
  ReturnsInHanded {} Tryd.checked os 5 .any (fun w args => (Rows.fnExactFindFieldSpec.pre enc Tryd.prog Tryd.f5 Rows.fnExactFindFieldRow.domain false w args ∧ laidMetH Tryd.prog Rows.fnExactFindFieldRow.laid w) ∧ sizedMet enc Tryd.prog Tryd.f5 (OpenSpec.ofChange Rows.fnExactFindFieldSpec) false w args) (Rows.fnExactFindFieldSpec.post enc Tryd.prog Tryd.f5 false true false false) := by
 refine LibShaped.returnsInHanded_and_shaped (C := Tryd.checked) (X := fun w _ => laidMetH Tryd.prog Rows.fnExactFindFieldRow.laid w) (fun _ _ _ hh h => h.of_heap hh) own started (by kernel_rfl) Tryd.func5
  (ChangeSpec.witness_shaped (enc := enc) (C := Tryd.checked) (os := os) (X := fun w _ => laidMetH Tryd.prog Rows.fnExactFindFieldRow.laid w) false (LibShaped.laidWorld Tryd.prog os [(2, Rows.laid_unicode_utf8_acceptRanges), (1, Rows.laid_unicode_utf8_first)]) #[.agg #[.int .i64 0, .slice none 0 0], .agg #[.string ByteArray.empty, .string ByteArray.empty]] 8 rfl (World.shaped_of_RefB (by kernel_rfl) (by kernel_rfl)) (by kernel_rfl) (by kernel_rfl) (by kernel_rfl) (door_met os _)) ?_
 intro W base args ds gs before hval0 hW hcnd hsz0 hLS _
 obtain ⟨hL, hsh⟩ := hLS
 have ht : A.TB W := Tryd.laysM145.s1_3 W hsh
 have hval : ∀ (j : Nat) t v, Tryd.f5.params[j]? = some t → args[j]? = some v → Value.okWide Tryd.prog W .any base t v := hval0
 have hW' := hW
 obtain ⟨p, q, hA0, hV, rfl, hfz, hnd⟩ := hW
 have hA : DataW.TrodAll enc Tryd.prog W 0 (fun _ => true) true Tryd.f5.params.toList args.toList ds p := hA0
 rw [Tryd.params5] at hA hval
 obtain ⟨v0, vs0, d0, ds0, p0, q0, hargs, rfl, rfl, h0, r0⟩ := trodAll_cons hA
 obtain ⟨v1, vs1, d1, ds1, p1, q1, rfl, rfl, rfl, h1, r1⟩ := trodAll_cons r0
 obtain ⟨rfl, rfl, rfl⟩ := trodAll_nil r1
 obtain rfl : args = #[v0, v1] := by cases args; simp_all
 obtain ⟨rfl, rfl⟩ := trodVars_none hV
 have k0 := h0
 have lt0 : ∀ x ∈ p0, x.block < W.heap.size := by obtain ⟨m, hm⟩ := k0; exact DataW.trod_lt m _ _ _ hm
 obtain ⟨v0_0, v0_1, y0_0, y0_1, n0, rfl, _, _, t0_0, t0_1⟩ := Go.Joins.open_agg2 Tryd.underlying30 (by kernel_rfl) (by kernel_rfl) (hval 0 30 v0 rfl rfl) h0
 obtain ⟨a0_0, e0_0, _, w0_0⟩ := DataW.trod_int Tryd.underlying3 t0_0
 obtain rfl := (List.cons.inj e0_0).1
 obtain ⟨A0_1, c0_1, l0_1, e0_1, hr0_1, hc0_1, hm0_1, hw0_1⟩ := Go.Proofs.YtfcgadokmbooaaaDoorM.PrintMine.row_of_trod k39 (fun x : S39 => x.f0.size ≤ 9223372036854775807 ∧ x.f1.size ≤ 9223372036854775807) Tryd.underlying28 (by kernel_rfl) el39 t0_1
 obtain rfl := (List.cons.inj e0_1).1
 have k1 := h1
 have lt1 : ∀ x ∈ p1, x.block < W.heap.size := by obtain ⟨m, hm⟩ := k1; exact DataW.trod_lt m _ _ _ hm
 obtain ⟨v1_0, v1_1, y1_0, y1_1, n1, rfl, _, _, t1_0, t1_1⟩ := Go.Joins.open_agg2 Tryd.underlying39 (by kernel_rfl) (by kernel_rfl) (hval 1 39 v1 rfl rfl) h1
 obtain ⟨a1_0, e1_0, _, w1_0⟩ := DataW.trod_string Tryd.underlying9 t1_0
 obtain rfl := (List.cons.inj e1_0).1
 obtain ⟨a1_1, e1_1, _, w1_1⟩ := DataW.trod_string Tryd.underlying9 t1_1
 obtain rfl := (List.cons.inj e1_1).1
 obtain ⟨k, h⟩ := Pure.FnExactFindField a0_0 l0_1 a1_0 a1_1 w0_0 hm0_1 hw0_1 w1_0 w1_1
 refine (laws_FnExactFindField.calls k a0_0 _ _ l0_1 a1_0 a1_1 true W hr0_1 hc0_1 ht h).mono fun e W' ⟨he, hd⟩ => ?_
 have bel : Below W.heap.size W W' := hd
 subst he
 exact ⟨_, rfl, _, _, _, [], _, [], hW', trodAll_mk1 (shut_bool Tryd.underlying4 _), (trodAll_cons_mk (Below.trod laidOut (by kernel_rfl) (of_decide_eq_true (by kernel_rfl)) k0 bel lt0) (trodAll_cons_mk (Below.trod laidOut (by kernel_rfl) (of_decide_eq_true (by kernel_rfl)) k1 bel lt1) trodAll_mk0)), rfl, bel.frame _, fun h => by cases h⟩
theorem over : Rows.fnExactFindFieldRow.holds Tryd.pinned (OpenSpec.ofChange Rows.fnExactFindFieldSpec) :=
 OpenClaim.holds_of_wide 5 Tryd.f5 rfl rfl rfl rfl rfl rfl rfl ⟨rfl, rfl, rfl, rfl, rfl⟩ rfl rfl rfl rfl rfl (by kernel_rfl) Tryd.func5 (by kernel_rfl)
  (of_decide_eq_true (by kernel_rfl)) (by unfold Func.isWrapper; first | (rw [if_pos (by decide +kernel)]; kernel_rfl) | (rw [if_neg (by decide +kernel)]; exact ⟨rfl, rfl⟩))
  (fun os started H enc _ => lifted os started H enc)
theorem proved : Rows.FnExactFindFieldCardSaid :=
 Claim7.holds_tied_plain_at .later [] [.data, .pinned] true (true, "49a0476dd0fff5507f7941e5a510a32bcbba70ff45d72c54ad331bc338ad0272") false
  over (fun _ h => by cases h) (by kernel_rfl) (fun _ h => by cases h) fnExactFindField_row_tie rfl ⟨rfl, rfl⟩ (by kernel_rfl) rfl
  (fun f fn hf hfn => by
   obtain rfl : f = 5 := Option.some.inj ((show Tryd.prog.funcNamed "loop.example/g00199/laws.FnExactFindField" = some 5 by kernel_rfl).symm.trans hf) |>.symm
   obtain rfl : fn = Tryd.f5 := (Option.some.inj (Tryd.func5.symm.trans hfn)).symm
   exact ⟨by kernel_rfl, fun j t ht => by
    rw [Tryd.params5] at ht
    have hm : t ∈ [30, 39] := by simpa using Array.mem_of_getElem? ht
    have hall : ([30, 39].all fun u => !Tryd.prog.wantsStandIn u) = true := by kernel_rfl
    exact (show Tryd.prog.wantsStandIn t = false by simpa using List.all_eq_true.1 hall t hm)⟩)
  (by kernel_rfl)
#print axioms proved
end Go.Proofs.YtfcgadokmbooaaaDoor.fnExactFindField
namespace Go.Proofs.YtfcgadokmbooaaaDoor
/-- The row, under a short name, for the claim. -/
theorem fnExactFindField_holds : Rows.FnExactFindFieldCardSaid := fnExactFindField.proved
end Go.Proofs.YtfcgadokmbooaaaDoor
