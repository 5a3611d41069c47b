/-
  No cell of these rows narrows 'for every input' (looked for: loops, veiled, ifaces, maps, wideKeys, modest, calm, conditions, laid).
  DERIVED. THE GIVEN ROWS OF THIS SEAT. 12 by the template 'for every input the law returns true; each argument reads behind the call as it read before'; 0 by the template 'total and deterministic' (their statements: YtkhcnmjgojkkoaaTotals.lean).
  GIVEN WITH THE SEED: the statements are not yours to turn. If you find one false, say at which input.
  Laid BY PROGRAM, IN A SANDBOX (cutbox-rows.mjs): the forced cells as the released guide's own fill.sh prints them over the translation 8a267019cf79d929… (all of the seat's roots in one cut). By AI agents, Wed Nov 11 2026. No macro, syntax, notation, axiom, sorry.
-/
import Derived.Test.YtkhcnmjgojkkoaaChecked
import GoSem.Claim
import GoSem.ClaimJoined
import GoSem.ClaimMapViews
import Derived.JoinedTies
import Derived.KernelRfl
namespace Go.Proofs.Ytkhcnmjgojkkoaa
/- THE CELL 'sum', in the pinned program and in every row, IS THE sha256 OF THE DUMP (.gsa) THAT YtkhcnmjgojkkoaaProg.lean LOADS. Nothing in Lean hashes anything: it is a label: what it is worth is what the hold of that sum in a sandbox is worth. -/
noncomputable def Try.pinned : Pinned := { name := "ytkhcnmjgojkkoaa", sum := "8a267019cf79d9295a47b45fe6d6a64750203d4332d2201b7951ede3ffdc20a4", checked := Try.checked }
namespace Rows
def none {H : Type} : Left H := { results := [], args := [] }

/-- 'laws.FnExactPutPrefix': WHATEVER THE INPUT: true; the input reads as it did. -/
def fnExactPutPrefixSpec : ChangeSpec := { name := "fnExactPutPrefix", fn := fun _ => fun
  | [d1, d2, d3, d4] => { results := [.lit (.bool true)], args := [d1, d2, d3, d4] }
  | _ => none }
def fnExactPutPrefixRow : OpenClaim := { program := "ytkhcnmjgojkkoaa", sum := "8a267019cf79d9295a47b45fe6d6a64750203d4332d2201b7951ede3ffdc20a4", func := "loop.example/g00199/laws.FnExactPutPrefix", spec := "fnExactPutPrefix", apart := false }
def FnExactPutPrefixSaid : Prop := fnExactPutPrefixRow.holds Try.pinned (OpenSpec.ofChange fnExactPutPrefixSpec)

/-- ITS FALSE NEIGHBOUR: 'it returns false'. Refute it at one input. -/
def fnExactPutPrefixWrong : ChangeSpec := { name := "fnExactPutPrefix", fn := fun _ => fun
  | [d1, d2, d3, d4] => { results := [.lit (.bool false)], args := [d1, d2, d3, d4] }
  | _ => none }
def FnExactPutPrefixWrongFalsely : Prop := fnExactPutPrefixRow.holds Try.pinned (OpenSpec.ofChange fnExactPutPrefixWrong)

/-- 'laws.FnExactSizeOf': WHATEVER THE INPUT: true; the input reads as it did. -/
def fnExactSizeOfSpec : ChangeSpec := { name := "fnExactSizeOf", fn := fun _ => fun
  | [d] => { results := [.lit (.bool true)], args := [d] }
  | _ => none }
def fnExactSizeOfRow : OpenClaim := { program := "ytkhcnmjgojkkoaa", sum := "8a267019cf79d9295a47b45fe6d6a64750203d4332d2201b7951ede3ffdc20a4", func := "loop.example/g00199/laws.FnExactSizeOf", spec := "fnExactSizeOf", apart := false }
def FnExactSizeOfSaid : Prop := fnExactSizeOfRow.holds Try.pinned (OpenSpec.ofChange fnExactSizeOfSpec)

/-- ITS FALSE NEIGHBOUR: 'it returns false'. Refute it at one input. -/
def fnExactSizeOfWrong : ChangeSpec := { name := "fnExactSizeOf", fn := fun _ => fun
  | [d] => { results := [.lit (.bool false)], args := [d] }
  | _ => none }
def FnExactSizeOfWrongFalsely : Prop := fnExactSizeOfRow.holds Try.pinned (OpenSpec.ofChange fnExactSizeOfWrong)

/-- 'laws.FnPrefixed': WHATEVER THE INPUT: true; the input reads as it did. -/
def fnPrefixedSpec : ChangeSpec := { name := "fnPrefixed", fn := fun _ => fun
  | [d] => { results := [.lit (.bool true)], args := [d] }
  | _ => none }
def fnPrefixedRow : OpenClaim := { program := "ytkhcnmjgojkkoaa", sum := "8a267019cf79d9295a47b45fe6d6a64750203d4332d2201b7951ede3ffdc20a4", func := "loop.example/g00199/laws.FnPrefixed", spec := "fnPrefixed", apart := false }
def FnPrefixedSaid : Prop := fnPrefixedRow.holds Try.pinned (OpenSpec.ofChange fnPrefixedSpec)

/-- ITS FALSE NEIGHBOUR: 'it returns false'. Refute it at one input. -/
def fnPrefixedWrong : ChangeSpec := { name := "fnPrefixed", fn := fun _ => fun
  | [d] => { results := [.lit (.bool false)], args := [d] }
  | _ => none }
def FnPrefixedWrongFalsely : Prop := fnPrefixedRow.holds Try.pinned (OpenSpec.ofChange fnPrefixedWrong)

/-- 'laws.FnSettings': WHATEVER THE INPUT: true; the input reads as it did. -/
def fnSettingsSpec : ChangeSpec := { name := "fnSettings", fn := fun _ => fun
  | [d] => { results := [.lit (.bool true)], args := [d] }
  | _ => none }
def fnSettingsRow : OpenClaim := { program := "ytkhcnmjgojkkoaa", sum := "8a267019cf79d9295a47b45fe6d6a64750203d4332d2201b7951ede3ffdc20a4", func := "loop.example/g00199/laws.FnSettings", spec := "fnSettings", apart := false }
def FnSettingsSaid : Prop := fnSettingsRow.holds Try.pinned (OpenSpec.ofChange fnSettingsSpec)

/-- ITS FALSE NEIGHBOUR: 'it returns false'. Refute it at one input. -/
def fnSettingsWrong : ChangeSpec := { name := "fnSettings", fn := fun _ => fun
  | [d] => { results := [.lit (.bool false)], args := [d] }
  | _ => none }
def FnSettingsWrongFalsely : Prop := fnSettingsRow.holds Try.pinned (OpenSpec.ofChange fnSettingsWrong)

/-- 'laws.FnExactTableOk': WHATEVER THE INPUT: true; the input reads as it did. -/
def fnExactTableOkSpec : ChangeSpec := { name := "fnExactTableOk", fn := fun _ => fun
  | [d] => { results := [.lit (.bool true)], args := [d] }
  | _ => none }
def fnExactTableOkRow : OpenClaim := { program := "ytkhcnmjgojkkoaa", sum := "8a267019cf79d9295a47b45fe6d6a64750203d4332d2201b7951ede3ffdc20a4", func := "loop.example/g00199/laws.FnExactTableOk", spec := "fnExactTableOk", apart := false }
def FnExactTableOkSaid : Prop := fnExactTableOkRow.holds Try.pinned (OpenSpec.ofChange fnExactTableOkSpec)

/-- ITS FALSE NEIGHBOUR: 'it returns false'. Refute it at one input. -/
def fnExactTableOkWrong : ChangeSpec := { name := "fnExactTableOk", fn := fun _ => fun
  | [d] => { results := [.lit (.bool false)], args := [d] }
  | _ => none }
def FnExactTableOkWrongFalsely : Prop := fnExactTableOkRow.holds Try.pinned (OpenSpec.ofChange fnExactTableOkWrong)

/-- 'laws.FnPadded': WHATEVER THE INPUT: true; the input reads as it did. -/
def fnPaddedSpec : ChangeSpec := { name := "fnPadded", fn := fun _ => fun
  | [d] => { results := [.lit (.bool true)], args := [d] }
  | _ => none }
def fnPaddedRow : OpenClaim := { program := "ytkhcnmjgojkkoaa", sum := "8a267019cf79d9295a47b45fe6d6a64750203d4332d2201b7951ede3ffdc20a4", func := "loop.example/g00199/laws.FnPadded", spec := "fnPadded", apart := false }
def FnPaddedSaid : Prop := fnPaddedRow.holds Try.pinned (OpenSpec.ofChange fnPaddedSpec)

/-- ITS FALSE NEIGHBOUR: 'it returns false'. Refute it at one input. -/
def fnPaddedWrong : ChangeSpec := { name := "fnPadded", fn := fun _ => fun
  | [d] => { results := [.lit (.bool false)], args := [d] }
  | _ => none }
def FnPaddedWrongFalsely : Prop := fnPaddedRow.holds Try.pinned (OpenSpec.ofChange fnPaddedWrong)

/-- 'laws.FnExactGetSettings': WHATEVER THE INPUT: true; the input reads as it did. -/
def fnExactGetSettingsSpec : ChangeSpec := { name := "fnExactGetSettings", fn := fun _ => fun
  | [d] => { results := [.lit (.bool true)], args := [d] }
  | _ => none }
def fnExactGetSettingsRow : OpenClaim := { program := "ytkhcnmjgojkkoaa", sum := "8a267019cf79d9295a47b45fe6d6a64750203d4332d2201b7951ede3ffdc20a4", func := "loop.example/g00199/laws.FnExactGetSettings", spec := "fnExactGetSettings", apart := false }
def FnExactGetSettingsSaid : Prop := fnExactGetSettingsRow.holds Try.pinned (OpenSpec.ofChange fnExactGetSettingsSpec)

/-- ITS FALSE NEIGHBOUR: 'it returns false'. Refute it at one input. -/
def fnExactGetSettingsWrong : ChangeSpec := { name := "fnExactGetSettings", fn := fun _ => fun
  | [d] => { results := [.lit (.bool false)], args := [d] }
  | _ => none }
def FnExactGetSettingsWrongFalsely : Prop := fnExactGetSettingsRow.holds Try.pinned (OpenSpec.ofChange fnExactGetSettingsWrong)

/-- 'laws.FnExactUnpad': WHATEVER THE INPUT: true; the input reads as it did. -/
def fnExactUnpadSpec : ChangeSpec := { name := "fnExactUnpad", fn := fun _ => fun
  | [d] => { results := [.lit (.bool true)], args := [d] }
  | _ => none }
def fnExactUnpadRow : OpenClaim := { program := "ytkhcnmjgojkkoaa", sum := "8a267019cf79d9295a47b45fe6d6a64750203d4332d2201b7951ede3ffdc20a4", func := "loop.example/g00199/laws.FnExactUnpad", spec := "fnExactUnpad", apart := false }
def FnExactUnpadSaid : Prop := fnExactUnpadRow.holds Try.pinned (OpenSpec.ofChange fnExactUnpadSpec)

/-- ITS FALSE NEIGHBOUR: 'it returns false'. Refute it at one input. -/
def fnExactUnpadWrong : ChangeSpec := { name := "fnExactUnpad", fn := fun _ => fun
  | [d] => { results := [.lit (.bool false)], args := [d] }
  | _ => none }
def FnExactUnpadWrongFalsely : Prop := fnExactUnpadRow.holds Try.pinned (OpenSpec.ofChange fnExactUnpadWrong)

/-- 'laws.FnExactPutFrame': WHATEVER THE INPUT: true; the input reads as it did. -/
def fnExactPutFrameSpec : ChangeSpec := { name := "fnExactPutFrame", fn := fun _ => fun
  | [d] => { results := [.lit (.bool true)], args := [d] }
  | _ => none }
def fnExactPutFrameRow : OpenClaim := { program := "ytkhcnmjgojkkoaa", sum := "8a267019cf79d9295a47b45fe6d6a64750203d4332d2201b7951ede3ffdc20a4", func := "loop.example/g00199/laws.FnExactPutFrame", spec := "fnExactPutFrame", apart := false }
def FnExactPutFrameSaid : Prop := fnExactPutFrameRow.holds Try.pinned (OpenSpec.ofChange fnExactPutFrameSpec)

/-- ITS FALSE NEIGHBOUR: 'it returns false'. Refute it at one input. -/
def fnExactPutFrameWrong : ChangeSpec := { name := "fnExactPutFrame", fn := fun _ => fun
  | [d] => { results := [.lit (.bool false)], args := [d] }
  | _ => none }
def FnExactPutFrameWrongFalsely : Prop := fnExactPutFrameRow.holds Try.pinned (OpenSpec.ofChange fnExactPutFrameWrong)

/-- 'laws.FnExactGetFrame': WHATEVER THE INPUT: true; the input reads as it did. -/
def fnExactGetFrameSpec : ChangeSpec := { name := "fnExactGetFrame", fn := fun _ => fun
  | [d1, d2] => { results := [.lit (.bool true)], args := [d1, d2] }
  | _ => none }
def fnExactGetFrameRow : OpenClaim := { program := "ytkhcnmjgojkkoaa", sum := "8a267019cf79d9295a47b45fe6d6a64750203d4332d2201b7951ede3ffdc20a4", func := "loop.example/g00199/laws.FnExactGetFrame", spec := "fnExactGetFrame", apart := false }
def FnExactGetFrameSaid : Prop := fnExactGetFrameRow.holds Try.pinned (OpenSpec.ofChange fnExactGetFrameSpec)

/-- ITS FALSE NEIGHBOUR: 'it returns false'. Refute it at one input. -/
def fnExactGetFrameWrong : ChangeSpec := { name := "fnExactGetFrame", fn := fun _ => fun
  | [d1, d2] => { results := [.lit (.bool false)], args := [d1, d2] }
  | _ => none }
def FnExactGetFrameWrongFalsely : Prop := fnExactGetFrameRow.holds Try.pinned (OpenSpec.ofChange fnExactGetFrameWrong)

/-- 'laws.FnExactFrameCode': WHATEVER THE INPUT: true; the input reads as it did. -/
def fnExactFrameCodeSpec : ChangeSpec := { name := "fnExactFrameCode", fn := fun _ => fun
  | [d] => { results := [.lit (.bool true)], args := [d] }
  | _ => none }
def fnExactFrameCodeRow : OpenClaim := { program := "ytkhcnmjgojkkoaa", sum := "8a267019cf79d9295a47b45fe6d6a64750203d4332d2201b7951ede3ffdc20a4", func := "loop.example/g00199/laws.FnExactFrameCode", spec := "fnExactFrameCode", apart := false }
def FnExactFrameCodeSaid : Prop := fnExactFrameCodeRow.holds Try.pinned (OpenSpec.ofChange fnExactFrameCodeSpec)

/-- ITS FALSE NEIGHBOUR: 'it returns false'. Refute it at one input. -/
def fnExactFrameCodeWrong : ChangeSpec := { name := "fnExactFrameCode", fn := fun _ => fun
  | [d] => { results := [.lit (.bool false)], args := [d] }
  | _ => none }
def FnExactFrameCodeWrongFalsely : Prop := fnExactFrameCodeRow.holds Try.pinned (OpenSpec.ofChange fnExactFrameCodeWrong)

/-- 'laws.FnFrames': WHATEVER THE INPUT: true; the input reads as it did. -/
def fnFramesSpec : ChangeSpec := { name := "fnFrames", fn := fun _ => fun
  | [d] => { results := [.lit (.bool true)], args := [d] }
  | _ => none }
def fnFramesRow : OpenClaim := { program := "ytkhcnmjgojkkoaa", sum := "8a267019cf79d9295a47b45fe6d6a64750203d4332d2201b7951ede3ffdc20a4", func := "loop.example/g00199/laws.FnFrames", spec := "fnFrames", apart := false }
def FnFramesSaid : Prop := fnFramesRow.holds Try.pinned (OpenSpec.ofChange fnFramesSpec)

/-- ITS FALSE NEIGHBOUR: 'it returns false'. Refute it at one input. -/
def fnFramesWrong : ChangeSpec := { name := "fnFrames", fn := fun _ => fun
  | [d] => { results := [.lit (.bool false)], args := [d] }
  | _ => none }
def FnFramesWrongFalsely : Prop := fnFramesRow.holds Try.pinned (OpenSpec.ofChange fnFramesWrong)

/- THE SECOND FORM. 'bulk': how many values and letters a reading holds, each counted each time it is reached (what is shared counts as often as it is met; a slice's spare places count too). A statement '..UptoSaid' is the law's where the arguments, and the package variables that the reading takes, are together of bulk at most 1048576: NARROWER than '..Said'. Prove '..Said' where nothing that the law and all that it calls make is longer than what came in: it says more and counts as full. Else prove '..UptoSaid'. A law counts once. -/
mutual
def uptoBulk {H : Type} : DataW H → Nat
  | .lit (.string bytes) => bytes.length + 1
  | .lit _ => 1
  | .nil => 1
  | .ptr d => uptoBulk d + 1
  | .slice elems spare => uptoBulkAll elems + uptoBulkAll spare + 1
  | .agg parts => uptoBulkAll parts + 1
  | .iface _ d => uptoBulk d + 1
  | .map entries => uptoBulkEntries entries + 1
  | .held _ => 1
def uptoBulkAll {H : Type} : List (DataW H) → Nat
  | [] => 0
  | d :: r => uptoBulk d + uptoBulkAll r
def uptoBulkEntries {H : Type} : List (Lit × DataW H) → Nat
  | [] => 0
  | x :: r => uptoBulkEntry x + uptoBulkEntries r
def uptoBulkEntry {H : Type} : Lit × DataW H → Nat
  | (.string bytes, d) => bytes.length + uptoBulk d + 1
  | (_, d) => uptoBulk d + 1
 end
def uptoSmall : (H : Type) → List (DataW H) → Bool := fun _ ds => decide (uptoBulkAll ds ≤ 1048576)
def OpenSpec.upto (s : _root_.Go.ChangeSpec) : _root_.Go.OpenSpec := { _root_.Go.OpenSpec.ofChange s with cond := some uptoSmall }

/-- 'laws.FnExactPutPrefix', WHERE WHAT IT READS IS OF BULK AT MOST 1048576: true; the input reads as it did. -/
def fnExactPutPrefixUptoRow : OpenClaim := { program := "ytkhcnmjgojkkoaa", sum := "8a267019cf79d9295a47b45fe6d6a64750203d4332d2201b7951ede3ffdc20a4", func := "loop.example/g00199/laws.FnExactPutPrefix", spec := "fnExactPutPrefix", apart := false, narrowed := true }
def FnExactPutPrefixUptoSaid : Prop := fnExactPutPrefixUptoRow.holds Try.pinned (OpenSpec.upto fnExactPutPrefixSpec)

/-- 'laws.FnExactSizeOf', WHERE WHAT IT READS IS OF BULK AT MOST 1048576: true; the input reads as it did. -/
def fnExactSizeOfUptoRow : OpenClaim := { program := "ytkhcnmjgojkkoaa", sum := "8a267019cf79d9295a47b45fe6d6a64750203d4332d2201b7951ede3ffdc20a4", func := "loop.example/g00199/laws.FnExactSizeOf", spec := "fnExactSizeOf", apart := false, narrowed := true }
def FnExactSizeOfUptoSaid : Prop := fnExactSizeOfUptoRow.holds Try.pinned (OpenSpec.upto fnExactSizeOfSpec)

/-- 'laws.FnPrefixed', WHERE WHAT IT READS IS OF BULK AT MOST 1048576: true; the input reads as it did. -/
def fnPrefixedUptoRow : OpenClaim := { program := "ytkhcnmjgojkkoaa", sum := "8a267019cf79d9295a47b45fe6d6a64750203d4332d2201b7951ede3ffdc20a4", func := "loop.example/g00199/laws.FnPrefixed", spec := "fnPrefixed", apart := false, narrowed := true }
def FnPrefixedUptoSaid : Prop := fnPrefixedUptoRow.holds Try.pinned (OpenSpec.upto fnPrefixedSpec)

/-- 'laws.FnSettings', WHERE WHAT IT READS IS OF BULK AT MOST 1048576: true; the input reads as it did. -/
def fnSettingsUptoRow : OpenClaim := { program := "ytkhcnmjgojkkoaa", sum := "8a267019cf79d9295a47b45fe6d6a64750203d4332d2201b7951ede3ffdc20a4", func := "loop.example/g00199/laws.FnSettings", spec := "fnSettings", apart := false, narrowed := true }
def FnSettingsUptoSaid : Prop := fnSettingsUptoRow.holds Try.pinned (OpenSpec.upto fnSettingsSpec)

/-- 'laws.FnExactTableOk', WHERE WHAT IT READS IS OF BULK AT MOST 1048576: true; the input reads as it did. -/
def fnExactTableOkUptoRow : OpenClaim := { program := "ytkhcnmjgojkkoaa", sum := "8a267019cf79d9295a47b45fe6d6a64750203d4332d2201b7951ede3ffdc20a4", func := "loop.example/g00199/laws.FnExactTableOk", spec := "fnExactTableOk", apart := false, narrowed := true }
def FnExactTableOkUptoSaid : Prop := fnExactTableOkUptoRow.holds Try.pinned (OpenSpec.upto fnExactTableOkSpec)

/-- 'laws.FnPadded', WHERE WHAT IT READS IS OF BULK AT MOST 1048576: true; the input reads as it did. -/
def fnPaddedUptoRow : OpenClaim := { program := "ytkhcnmjgojkkoaa", sum := "8a267019cf79d9295a47b45fe6d6a64750203d4332d2201b7951ede3ffdc20a4", func := "loop.example/g00199/laws.FnPadded", spec := "fnPadded", apart := false, narrowed := true }
def FnPaddedUptoSaid : Prop := fnPaddedUptoRow.holds Try.pinned (OpenSpec.upto fnPaddedSpec)

/-- 'laws.FnExactGetSettings', WHERE WHAT IT READS IS OF BULK AT MOST 1048576: true; the input reads as it did. -/
def fnExactGetSettingsUptoRow : OpenClaim := { program := "ytkhcnmjgojkkoaa", sum := "8a267019cf79d9295a47b45fe6d6a64750203d4332d2201b7951ede3ffdc20a4", func := "loop.example/g00199/laws.FnExactGetSettings", spec := "fnExactGetSettings", apart := false, narrowed := true }
def FnExactGetSettingsUptoSaid : Prop := fnExactGetSettingsUptoRow.holds Try.pinned (OpenSpec.upto fnExactGetSettingsSpec)

/-- 'laws.FnExactUnpad', WHERE WHAT IT READS IS OF BULK AT MOST 1048576: true; the input reads as it did. -/
def fnExactUnpadUptoRow : OpenClaim := { program := "ytkhcnmjgojkkoaa", sum := "8a267019cf79d9295a47b45fe6d6a64750203d4332d2201b7951ede3ffdc20a4", func := "loop.example/g00199/laws.FnExactUnpad", spec := "fnExactUnpad", apart := false, narrowed := true }
def FnExactUnpadUptoSaid : Prop := fnExactUnpadUptoRow.holds Try.pinned (OpenSpec.upto fnExactUnpadSpec)

/-- 'laws.FnExactPutFrame', WHERE WHAT IT READS IS OF BULK AT MOST 1048576: true; the input reads as it did. -/
def fnExactPutFrameUptoRow : OpenClaim := { program := "ytkhcnmjgojkkoaa", sum := "8a267019cf79d9295a47b45fe6d6a64750203d4332d2201b7951ede3ffdc20a4", func := "loop.example/g00199/laws.FnExactPutFrame", spec := "fnExactPutFrame", apart := false, narrowed := true }
def FnExactPutFrameUptoSaid : Prop := fnExactPutFrameUptoRow.holds Try.pinned (OpenSpec.upto fnExactPutFrameSpec)

/-- 'laws.FnExactGetFrame', WHERE WHAT IT READS IS OF BULK AT MOST 1048576: true; the input reads as it did. -/
def fnExactGetFrameUptoRow : OpenClaim := { program := "ytkhcnmjgojkkoaa", sum := "8a267019cf79d9295a47b45fe6d6a64750203d4332d2201b7951ede3ffdc20a4", func := "loop.example/g00199/laws.FnExactGetFrame", spec := "fnExactGetFrame", apart := false, narrowed := true }
def FnExactGetFrameUptoSaid : Prop := fnExactGetFrameUptoRow.holds Try.pinned (OpenSpec.upto fnExactGetFrameSpec)

/-- 'laws.FnExactFrameCode', WHERE WHAT IT READS IS OF BULK AT MOST 1048576: true; the input reads as it did. -/
def fnExactFrameCodeUptoRow : OpenClaim := { program := "ytkhcnmjgojkkoaa", sum := "8a267019cf79d9295a47b45fe6d6a64750203d4332d2201b7951ede3ffdc20a4", func := "loop.example/g00199/laws.FnExactFrameCode", spec := "fnExactFrameCode", apart := false, narrowed := true }
def FnExactFrameCodeUptoSaid : Prop := fnExactFrameCodeUptoRow.holds Try.pinned (OpenSpec.upto fnExactFrameCodeSpec)

/-- 'laws.FnFrames', WHERE WHAT IT READS IS OF BULK AT MOST 1048576: true; the input reads as it did. -/
def fnFramesUptoRow : OpenClaim := { program := "ytkhcnmjgojkkoaa", sum := "8a267019cf79d9295a47b45fe6d6a64750203d4332d2201b7951ede3ffdc20a4", func := "loop.example/g00199/laws.FnFrames", spec := "fnFrames", apart := false, narrowed := true }
def FnFramesUptoSaid : Prop := fnFramesUptoRow.holds Try.pinned (OpenSpec.upto fnFramesSpec)

end Rows
end Go.Proofs.Ytkhcnmjgojkkoaa
