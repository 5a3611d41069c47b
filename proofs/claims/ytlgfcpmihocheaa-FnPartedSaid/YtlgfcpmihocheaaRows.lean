/-
  No cell of these rows narrows 'for every input' (looked for: loops, veiled, ifaces, maps, wideKeys, modest, calm, conditions, laid).
  DERIVED. THE GIVEN ROWS OF THIS SEAT. 7 by the template 'for every input the law returns true; each argument reads behind the call as it read before'; 0 by the template 'total and deterministic' (their statements: YtlgfcpmihocheaaTotals.lean).
  GIVEN WITH THE SEED: the statements are not yours to turn. If you find one false, say at which input.
  Laid BY PROGRAM, IN A SANDBOX (cutbox-rows.mjs): the forced cells as the released guide's own fill.sh prints them over the translation 4f2022c6ce1e717f… (all of the seat's roots in one cut). By AI agents, Wed Nov 11 2026. No macro, syntax, notation, axiom, sorry.
-/
import Derived.Test.YtlgfcpmihocheaaChecked
import GoSem.Claim
import GoSem.ClaimJoined
import GoSem.ClaimMapViews
import Derived.JoinedTies
import Derived.KernelRfl
namespace Go.Proofs.Ytlgfcpmihocheaa
/- THE CELL 'sum', in the pinned program and in every row, IS THE sha256 OF THE DUMP (.gsa) THAT YtlgfcpmihocheaaProg.lean LOADS. Nothing in Lean hashes anything: it is a label: what it is worth is what the hold of that sum in a sandbox is worth. -/
noncomputable def Try.pinned : Pinned := { name := "ytlgfcpmihocheaa", sum := "4f2022c6ce1e717f1662787a778678e08ff0faaed3a2ae399277c80401f47127", checked := Try.checked }
namespace Rows
def none {H : Type} : Left H := { results := [], args := [] }

/-- 'laws.FnResized': WHATEVER THE INPUT: true; the input reads as it did. -/
def fnResizedSpec : ChangeSpec := { name := "fnResized", fn := fun _ => fun
  | [d] => { results := [.lit (.bool true)], args := [d] }
  | _ => none }
def fnResizedRow : OpenClaim := { program := "ytlgfcpmihocheaa", sum := "4f2022c6ce1e717f1662787a778678e08ff0faaed3a2ae399277c80401f47127", func := "loop.example/g00199/laws.FnResized", spec := "fnResized", apart := false }
def FnResizedSaid : Prop := fnResizedRow.holds Try.pinned (OpenSpec.ofChange fnResizedSpec)

/-- ITS FALSE NEIGHBOUR: 'it returns false'. Refute it at one input. -/
def fnResizedWrong : ChangeSpec := { name := "fnResized", fn := fun _ => fun
  | [d] => { results := [.lit (.bool false)], args := [d] }
  | _ => none }
def FnResizedWrongFalsely : Prop := fnResizedRow.holds Try.pinned (OpenSpec.ofChange fnResizedWrong)

/-- 'laws.FnExactPart': WHATEVER THE INPUT: true; the input reads as it did. -/
def fnExactPartSpec : ChangeSpec := { name := "fnExactPart", fn := fun _ => fun
  | [d1, d2, d3, d4] => { results := [.lit (.bool true)], args := [d1, d2, d3, d4] }
  | _ => none }
def fnExactPartRow : OpenClaim := { program := "ytlgfcpmihocheaa", sum := "4f2022c6ce1e717f1662787a778678e08ff0faaed3a2ae399277c80401f47127", func := "loop.example/g00199/laws.FnExactPart", spec := "fnExactPart", unfollowed := true, recurses := true, apart := false }
def FnExactPartSaid : Prop := fnExactPartRow.holds Try.pinned (OpenSpec.ofChange fnExactPartSpec)

/-- ITS FALSE NEIGHBOUR: 'it returns false'. Refute it at one input. -/
def fnExactPartWrong : ChangeSpec := { name := "fnExactPart", fn := fun _ => fun
  | [d1, d2, d3, d4] => { results := [.lit (.bool false)], args := [d1, d2, d3, d4] }
  | _ => none }
def FnExactPartWrongFalsely : Prop := fnExactPartRow.holds Try.pinned (OpenSpec.ofChange fnExactPartWrong)

/-- 'laws.FnExactReadFrames': WHATEVER THE INPUT: true; the input reads as it did. -/
def fnExactReadFramesSpec : ChangeSpec := { name := "fnExactReadFrames", fn := fun _ => fun
  | [d] => { results := [.lit (.bool true)], args := [d] }
  | _ => none }
def fnExactReadFramesRow : OpenClaim := { program := "ytlgfcpmihocheaa", sum := "4f2022c6ce1e717f1662787a778678e08ff0faaed3a2ae399277c80401f47127", func := "loop.example/g00199/laws.FnExactReadFrames", spec := "fnExactReadFrames", apart := false }
def FnExactReadFramesSaid : Prop := fnExactReadFramesRow.holds Try.pinned (OpenSpec.ofChange fnExactReadFramesSpec)

/-- ITS FALSE NEIGHBOUR: 'it returns false'. Refute it at one input. -/
def fnExactReadFramesWrong : ChangeSpec := { name := "fnExactReadFrames", fn := fun _ => fun
  | [d] => { results := [.lit (.bool false)], args := [d] }
  | _ => none }
def FnExactReadFramesWrongFalsely : Prop := fnExactReadFramesRow.holds Try.pinned (OpenSpec.ofChange fnExactReadFramesWrong)

/-- 'laws.FnExactResize': WHATEVER THE INPUT: true; the input reads as it did. -/
def fnExactResizeSpec : ChangeSpec := { name := "fnExactResize", fn := fun _ => fun
  | [d1, d2] => { results := [.lit (.bool true)], args := [d1, d2] }
  | _ => none }
def fnExactResizeRow : OpenClaim := { program := "ytlgfcpmihocheaa", sum := "4f2022c6ce1e717f1662787a778678e08ff0faaed3a2ae399277c80401f47127", func := "loop.example/g00199/laws.FnExactResize", spec := "fnExactResize", apart := false }
def FnExactResizeSaid : Prop := fnExactResizeRow.holds Try.pinned (OpenSpec.ofChange fnExactResizeSpec)

/-- ITS FALSE NEIGHBOUR: 'it returns false'. Refute it at one input. -/
def fnExactResizeWrong : ChangeSpec := { name := "fnExactResize", fn := fun _ => fun
  | [d1, d2] => { results := [.lit (.bool false)], args := [d1, d2] }
  | _ => none }
def FnExactResizeWrongFalsely : Prop := fnExactResizeRow.holds Try.pinned (OpenSpec.ofChange fnExactResizeWrong)

/-- 'laws.FnParted': WHATEVER THE INPUT: true; the input reads as it did. -/
def fnPartedSpec : ChangeSpec := { name := "fnParted", fn := fun _ => fun
  | [d] => { results := [.lit (.bool true)], args := [d] }
  | _ => none }
def fnPartedRow : OpenClaim := { program := "ytlgfcpmihocheaa", sum := "4f2022c6ce1e717f1662787a778678e08ff0faaed3a2ae399277c80401f47127", func := "loop.example/g00199/laws.FnParted", spec := "fnParted", unfollowed := true, recurses := true, apart := false }
def FnPartedSaid : Prop := fnPartedRow.holds Try.pinned (OpenSpec.ofChange fnPartedSpec)

/-- ITS FALSE NEIGHBOUR: 'it returns false'. Refute it at one input. -/
def fnPartedWrong : ChangeSpec := { name := "fnParted", fn := fun _ => fun
  | [d] => { results := [.lit (.bool false)], args := [d] }
  | _ => none }
def FnPartedWrongFalsely : Prop := fnPartedRow.holds Try.pinned (OpenSpec.ofChange fnPartedWrong)

/-- 'laws.FnOneFrame': WHATEVER THE INPUT: true; the input reads as it did. -/
def fnOneFrameSpec : ChangeSpec := { name := "fnOneFrame", fn := fun _ => fun
  | [d] => { results := [.lit (.bool true)], args := [d] }
  | _ => none }
def fnOneFrameRow : OpenClaim := { program := "ytlgfcpmihocheaa", sum := "4f2022c6ce1e717f1662787a778678e08ff0faaed3a2ae399277c80401f47127", func := "loop.example/g00199/laws.FnOneFrame", spec := "fnOneFrame", apart := false }
def FnOneFrameSaid : Prop := fnOneFrameRow.holds Try.pinned (OpenSpec.ofChange fnOneFrameSpec)

/-- ITS FALSE NEIGHBOUR: 'it returns false'. Refute it at one input. -/
def fnOneFrameWrong : ChangeSpec := { name := "fnOneFrame", fn := fun _ => fun
  | [d] => { results := [.lit (.bool false)], args := [d] }
  | _ => none }
def FnOneFrameWrongFalsely : Prop := fnOneFrameRow.holds Try.pinned (OpenSpec.ofChange fnOneFrameWrong)

/-- 'laws.FnExactAddField': WHATEVER THE INPUT: true; the input reads as it did. -/
def fnExactAddFieldSpec : ChangeSpec := { name := "fnExactAddField", fn := fun _ => fun
  | [d1, d2] => { results := [.lit (.bool true)], args := [d1, d2] }
  | _ => none }
def fnExactAddFieldRow : OpenClaim := { program := "ytlgfcpmihocheaa", sum := "4f2022c6ce1e717f1662787a778678e08ff0faaed3a2ae399277c80401f47127", func := "loop.example/g00199/laws.FnExactAddField", spec := "fnExactAddField", inPlace := ["slices.overlaps[loop.example/g00199/impl.Field]"], apart := false }
def FnExactAddFieldSaid : Prop := fnExactAddFieldRow.holds Try.pinned (OpenSpec.ofChange fnExactAddFieldSpec)

/-- ITS FALSE NEIGHBOUR: 'it returns false'. Refute it at one input. -/
def fnExactAddFieldWrong : ChangeSpec := { name := "fnExactAddField", fn := fun _ => fun
  | [d1, d2] => { results := [.lit (.bool false)], args := [d1, d2] }
  | _ => none }
def FnExactAddFieldWrongFalsely : Prop := fnExactAddFieldRow.holds Try.pinned (OpenSpec.ofChange fnExactAddFieldWrong)

/- THE SECOND FORM. 'bulk': how many values and letters a reading holds, each counted each time it is reached (what is shared counts as often as it is met; a slice's spare places count too). A statement '..UptoSaid' is the law's where the arguments, and the package variables that the reading takes, are together of bulk at most 1048576: NARROWER than '..Said'. Prove '..Said' where nothing that the law and all that it calls make is longer than what came in: it says more and counts as full. Else prove '..UptoSaid'. A law counts once. -/
mutual
def uptoBulk {H : Type} : DataW H → Nat
  | .lit (.string bytes) => bytes.length + 1
  | .lit _ => 1
  | .nil => 1
  | .ptr d => uptoBulk d + 1
  | .slice elems spare => uptoBulkAll elems + uptoBulkAll spare + 1
  | .agg parts => uptoBulkAll parts + 1
  | .iface _ d => uptoBulk d + 1
  | .map entries => uptoBulkEntries entries + 1
  | .held _ => 1
def uptoBulkAll {H : Type} : List (DataW H) → Nat
  | [] => 0
  | d :: r => uptoBulk d + uptoBulkAll r
def uptoBulkEntries {H : Type} : List (Lit × DataW H) → Nat
  | [] => 0
  | x :: r => uptoBulkEntry x + uptoBulkEntries r
def uptoBulkEntry {H : Type} : Lit × DataW H → Nat
  | (.string bytes, d) => bytes.length + uptoBulk d + 1
  | (_, d) => uptoBulk d + 1
 end
def uptoSmall : (H : Type) → List (DataW H) → Bool := fun _ ds => decide (uptoBulkAll ds ≤ 1048576)
def OpenSpec.upto (s : _root_.Go.ChangeSpec) : _root_.Go.OpenSpec := { _root_.Go.OpenSpec.ofChange s with cond := some uptoSmall }

/-- 'laws.FnResized', WHERE WHAT IT READS IS OF BULK AT MOST 1048576: true; the input reads as it did. -/
def fnResizedUptoRow : OpenClaim := { program := "ytlgfcpmihocheaa", sum := "4f2022c6ce1e717f1662787a778678e08ff0faaed3a2ae399277c80401f47127", func := "loop.example/g00199/laws.FnResized", spec := "fnResized", apart := false, narrowed := true }
def FnResizedUptoSaid : Prop := fnResizedUptoRow.holds Try.pinned (OpenSpec.upto fnResizedSpec)

/-- 'laws.FnExactPart', WHERE WHAT IT READS IS OF BULK AT MOST 1048576: true; the input reads as it did. -/
def fnExactPartUptoRow : OpenClaim := { program := "ytlgfcpmihocheaa", sum := "4f2022c6ce1e717f1662787a778678e08ff0faaed3a2ae399277c80401f47127", func := "loop.example/g00199/laws.FnExactPart", spec := "fnExactPart", unfollowed := true, recurses := true, apart := false, narrowed := true }
def FnExactPartUptoSaid : Prop := fnExactPartUptoRow.holds Try.pinned (OpenSpec.upto fnExactPartSpec)

/-- 'laws.FnExactReadFrames', WHERE WHAT IT READS IS OF BULK AT MOST 1048576: true; the input reads as it did. -/
def fnExactReadFramesUptoRow : OpenClaim := { program := "ytlgfcpmihocheaa", sum := "4f2022c6ce1e717f1662787a778678e08ff0faaed3a2ae399277c80401f47127", func := "loop.example/g00199/laws.FnExactReadFrames", spec := "fnExactReadFrames", apart := false, narrowed := true }
def FnExactReadFramesUptoSaid : Prop := fnExactReadFramesUptoRow.holds Try.pinned (OpenSpec.upto fnExactReadFramesSpec)

/-- 'laws.FnExactResize', WHERE WHAT IT READS IS OF BULK AT MOST 1048576: true; the input reads as it did. -/
def fnExactResizeUptoRow : OpenClaim := { program := "ytlgfcpmihocheaa", sum := "4f2022c6ce1e717f1662787a778678e08ff0faaed3a2ae399277c80401f47127", func := "loop.example/g00199/laws.FnExactResize", spec := "fnExactResize", apart := false, narrowed := true }
def FnExactResizeUptoSaid : Prop := fnExactResizeUptoRow.holds Try.pinned (OpenSpec.upto fnExactResizeSpec)

/-- 'laws.FnParted', WHERE WHAT IT READS IS OF BULK AT MOST 1048576: true; the input reads as it did. -/
def fnPartedUptoRow : OpenClaim := { program := "ytlgfcpmihocheaa", sum := "4f2022c6ce1e717f1662787a778678e08ff0faaed3a2ae399277c80401f47127", func := "loop.example/g00199/laws.FnParted", spec := "fnParted", unfollowed := true, recurses := true, apart := false, narrowed := true }
def FnPartedUptoSaid : Prop := fnPartedUptoRow.holds Try.pinned (OpenSpec.upto fnPartedSpec)

/-- 'laws.FnOneFrame', WHERE WHAT IT READS IS OF BULK AT MOST 1048576: true; the input reads as it did. -/
def fnOneFrameUptoRow : OpenClaim := { program := "ytlgfcpmihocheaa", sum := "4f2022c6ce1e717f1662787a778678e08ff0faaed3a2ae399277c80401f47127", func := "loop.example/g00199/laws.FnOneFrame", spec := "fnOneFrame", apart := false, narrowed := true }
def FnOneFrameUptoSaid : Prop := fnOneFrameUptoRow.holds Try.pinned (OpenSpec.upto fnOneFrameSpec)

/-- 'laws.FnExactAddField', WHERE WHAT IT READS IS OF BULK AT MOST 1048576: true; the input reads as it did. -/
def fnExactAddFieldUptoRow : OpenClaim := { program := "ytlgfcpmihocheaa", sum := "4f2022c6ce1e717f1662787a778678e08ff0faaed3a2ae399277c80401f47127", func := "loop.example/g00199/laws.FnExactAddField", spec := "fnExactAddField", inPlace := ["slices.overlaps[loop.example/g00199/impl.Field]"], apart := false, narrowed := true }
def FnExactAddFieldUptoSaid : Prop := fnExactAddFieldUptoRow.holds Try.pinned (OpenSpec.upto fnExactAddFieldSpec)

end Rows
end Go.Proofs.Ytlgfcpmihocheaa
