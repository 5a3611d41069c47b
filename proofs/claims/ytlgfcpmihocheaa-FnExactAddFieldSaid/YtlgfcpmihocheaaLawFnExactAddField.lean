/- Written by a program of this session, out of the translation: functions as plain Lean functions, and that the machine's calls answer as they do. Condition: none beyond each theorem's own. -/
import Derived.Test.YtlgfcpmihocheaaRows
import Derived.Test.YtlgfcpmihocheaaAx26
import Derived.Test.YtlgfcpmihocheaaPureFnExactAddField
import Derived.Test.YtlgfcpmihocheaaMine
import Derived.WalkKit
import Derived.ProofKit
import Derived.OpenShut
import Derived.ShutString
import Derived.ChangeOld
import Derived.Below
import Derived.SizedLaws
import Derived.Lib.SmallJoins
namespace Go.Proofs.Ytlgfcpmihocheaa.fnExactAddField
open Go.ChangeShapes Go.WideShapes Go.ChangeAt Go.RowKit Go.Proofs.Ytlgfcpmihocheaa.A
open Go.Proofs.YtlgfcpmihocheaaW.PrintWords Go.Proofs.YtlgfcpmihocheaaW.PrintLast
open Go.ChangeMaps (open_string shut_string)
set_option linter.unusedVariables false
theorem own : ownKnob Try.prog.godebug = none := by kernel_rfl
theorem laidOut : laidOutB Try.prog = true := by kernel_rfl
theorem el69 {H : Type} {enc : TypeId × Value → H} {w : World} {base : Nat} {spare : Nat → Bool} {held : Bool} (n : Nat) (cs : List Value) (y : DataW H × List MemPlace) (h : DataW.trod enc Try.prog w base spare held n 69 cs = some y) : ∃ x : S69, (k69).K w x cs ∧ (x.f0.size ≤ 9223372036854775807 ∧ x.f1.size ≤ 9223372036854775807) := by
 obtain ⟨v0, v1, y0, y1, m, rfl, h0, h1⟩ := Go.Proofs.YtlgfcpmihocheaaM.PrintMine.el2 Try.underlying69 (by kernel_rfl) (by kernel_rfl) h
 obtain ⟨a0, e0, _, hw0⟩ := DataW.trod_string Try.underlying9 h0
 obtain rfl := (List.cons.inj e0).1
 obtain ⟨a1, e1, _, hw1⟩ := DataW.trod_string Try.underlying9 h1
 obtain rfl := (List.cons.inj e1).1
 exact ⟨⟨a0, a1⟩, k69_mk w ⟨a0, a1⟩, ⟨hw0, hw1⟩⟩
set_option maxRecDepth 100000 in
theorem lifted (os : Os) (started : os.Started) (H : Type) (enc : TypeId × Value → H) :
  ReturnsInHanded {} Try.checked os 9 .any (Rows.fnExactAddFieldSpec.pre6 enc Try.prog Try.f9 Rows.fnExactAddFieldRow.domain false) (Rows.fnExactAddFieldSpec.post enc Try.prog Try.f9 false true false false) := by
 refine returnsInHanded_of_change_sized (C := Try.checked) own started (by kernel_rfl) Try.func9
  (ChangeSpec.witness6 (enc := enc) (C := Try.checked) false ⟨#[], #[.agg #[.int .i64 0, .slice none 0 0], .agg #[.string ByteArray.empty, .string ByteArray.empty]], []⟩ 8 (by kernel_rfl) (by kernel_rfl) (by kernel_rfl) (by kernel_rfl)) ?_
 intro W base args ds gs before hval0 hW hcnd hsz0 _
 have hval : ∀ (j : Nat) t v, Try.f9.params[j]? = some t → args[j]? = some v → Value.okWide Try.prog W .any base t v := hval0
 have hW' := hW
 obtain ⟨p, q, hA0, hV, rfl, hfz, hnd⟩ := hW
 have hA : DataW.TrodAll enc Try.prog W 0 (fun _ => true) true Try.f9.params.toList args.toList ds p := hA0
 rw [Try.params9] at hA hval
 obtain ⟨v0, vs0, d0, ds0, p0, q0, hargs, rfl, rfl, h0, r0⟩ := trodAll_cons hA
 obtain ⟨v1, vs1, d1, ds1, p1, q1, rfl, rfl, rfl, h1, r1⟩ := trodAll_cons r0
 obtain ⟨rfl, rfl, rfl⟩ := trodAll_nil r1
 obtain rfl : args = #[v0, v1] := by cases args; simp_all
 obtain ⟨rfl, rfl⟩ := trodVars_none hV
 have k0 := h0
 have lt0 : ∀ x ∈ p0, x.block < W.heap.size := by obtain ⟨m, hm⟩ := k0; exact DataW.trod_lt m _ _ _ hm
 obtain ⟨v0_0, v0_1, y0_0, y0_1, n0, rfl, _, _, t0_0, t0_1⟩ := Go.Joins.open_agg2 Try.underlying47 (by kernel_rfl) (by kernel_rfl) (hval 0 47 v0 rfl rfl) h0
 obtain ⟨a0_0, e0_0, _, w0_0⟩ := DataW.trod_int Try.underlying3 t0_0
 obtain rfl := (List.cons.inj e0_0).1
 obtain ⟨A0_1, c0_1, l0_1, e0_1, hr0_1, hc0_1, hm0_1, hw0_1⟩ := Go.Proofs.YtlgfcpmihocheaaM.PrintMine.row_of_trod k69 (fun x : S69 => x.f0.size ≤ 9223372036854775807 ∧ x.f1.size ≤ 9223372036854775807) Try.underlying45 (by kernel_rfl) el69 t0_1
 obtain rfl := (List.cons.inj e0_1).1
 have k1 := h1
 have lt1 : ∀ x ∈ p1, x.block < W.heap.size := by obtain ⟨m, hm⟩ := k1; exact DataW.trod_lt m _ _ _ hm
 obtain ⟨v1_0, v1_1, y1_0, y1_1, n1, rfl, _, _, t1_0, t1_1⟩ := Go.Joins.open_agg2 Try.underlying69 (by kernel_rfl) (by kernel_rfl) (hval 1 69 v1 rfl rfl) h1
 obtain ⟨a1_0, e1_0, _, w1_0⟩ := DataW.trod_string Try.underlying9 t1_0
 obtain rfl := (List.cons.inj e1_0).1
 obtain ⟨a1_1, e1_1, _, w1_1⟩ := DataW.trod_string Try.underlying9 t1_1
 obtain rfl := (List.cons.inj e1_1).1
 obtain ⟨k, h⟩ := Pure.FnExactAddField a0_0 l0_1 a1_0 a1_1 w0_0 hm0_1 hw0_1 w1_0 w1_1
 refine (laws_FnExactAddField.calls k a0_0 _ _ l0_1 a1_0 a1_1 true W hr0_1 hc0_1 h).mono fun e W' ⟨he, hd⟩ => ?_
 have bel : Below W.heap.size W W' := hd
 subst he
 exact ⟨_, rfl, _, _, _, [], _, [], hW', trodAll_mk1 (shut_bool Try.underlying4 _), (trodAll_cons_mk (Below.trod laidOut (by kernel_rfl) (of_decide_eq_true (by kernel_rfl)) k0 bel lt0) (trodAll_cons_mk (Below.trod laidOut (by kernel_rfl) (of_decide_eq_true (by kernel_rfl)) k1 bel lt1) trodAll_mk0)), rfl, bel.frame _, fun h => by cases h⟩
theorem over : Rows.fnExactAddFieldRow.holds Try.pinned (OpenSpec.ofChange Rows.fnExactAddFieldSpec) :=
 OpenClaim.holds_of_wide 9 Try.f9 rfl rfl rfl rfl rfl rfl rfl ⟨rfl, rfl, rfl, rfl, rfl⟩ rfl rfl rfl rfl rfl (by kernel_rfl) Try.func9 (by kernel_rfl)
  (of_decide_eq_true (by kernel_rfl)) (by unfold Func.isWrapper; first | (rw [if_pos (by decide +kernel)]; kernel_rfl) | (rw [if_neg (by decide +kernel)]; exact ⟨rfl, rfl⟩))
  (fun os started H enc _ => lifted os started H enc)
theorem proved : Rows.FnExactAddFieldSaid := over
#print axioms proved
end Go.Proofs.Ytlgfcpmihocheaa.fnExactAddField
namespace Go.Proofs.Ytlgfcpmihocheaa
/-- The row, under a short name, for the claim. -/
theorem fnExactAddField_holds : Rows.FnExactAddFieldSaid := fnExactAddField.proved
end Go.Proofs.Ytlgfcpmihocheaa
