/-
  No cell of these rows narrows 'for every input' (looked for: loops, veiled, ifaces, maps, wideKeys, modest, calm, conditions, laid).
  DERIVED. THE GIVEN ROWS OF THIS SEAT. 12 by the template 'for every input the law returns true; each argument reads behind the call as it read before'; 0 by the template 'total and deterministic' (their statements: YtfjjnccfiepjcaaTotals.lean).
  GIVEN WITH THE SEED: the statements are not yours to turn. If you find one false, say at which input.
  Laid BY PROGRAM, IN A SANDBOX (cutbox-rows.mjs): the forced cells as the released guide's own fill.sh prints them over the translation 065b47c16fb44ab8… (all of the seat's roots in one cut). By AI agents, Wed Nov 11 2026. No macro, syntax, notation, axiom, sorry.
-/
import Derived.Test.YtfjjnccfiepjcaaChecked
import GoSem.Claim
import GoSem.ClaimJoined
import GoSem.ClaimMapViews
import Derived.JoinedTies
import Derived.KernelRfl
namespace Go.Proofs.Ytfjjnccfiepjcaa
/- THE CELL 'sum', in the pinned program and in every row, IS THE sha256 OF THE DUMP (.gsa) THAT YtfjjnccfiepjcaaProg.lean LOADS. Nothing in Lean hashes anything: it is a label: what it is worth is what the hold of that sum in a sandbox is worth. -/
noncomputable def Try.pinned : Pinned := { name := "ytfjjnccfiepjcaa", sum := "065b47c16fb44ab8a88bb9f1268520d8637c8be2b91529f7423926b6d09d9b95", checked := Try.checked }
namespace Rows
def none {H : Type} : Left H := { results := [], args := [] }

/-- 'laws.FnExactConstants': WHATEVER THE INPUT: true; the input reads as it did. -/
def fnExactConstantsSpec : ChangeSpec := { name := "fnExactConstants", fn := fun _ => fun
  | [] => { results := [.lit (.bool true)], args := [] }
  | _ => none }
def fnExactConstantsRow : OpenClaim := { program := "ytfjjnccfiepjcaa", sum := "065b47c16fb44ab8a88bb9f1268520d8637c8be2b91529f7423926b6d09d9b95", func := "loop.example/g00199/laws.FnExactConstants", spec := "fnExactConstants", apart := false }
def FnExactConstantsSaid : Prop := fnExactConstantsRow.holds Try.pinned (OpenSpec.ofChange fnExactConstantsSpec)

/-- ITS FALSE NEIGHBOUR: 'it returns false'. Refute it at one input. -/
def fnExactConstantsWrong : ChangeSpec := { name := "fnExactConstants", fn := fun _ => fun
  | [] => { results := [.lit (.bool false)], args := [] }
  | _ => none }
def FnExactConstantsWrongFalsely : Prop := fnExactConstantsRow.holds Try.pinned (OpenSpec.ofChange fnExactConstantsWrong)

/-- 'laws.FnExactGetBig': WHATEVER THE INPUT: true; the input reads as it did. -/
def fnExactGetBigSpec : ChangeSpec := { name := "fnExactGetBig", fn := fun _ => fun
  | [d1, d2, d3] => { results := [.lit (.bool true)], args := [d1, d2, d3] }
  | _ => none }
def fnExactGetBigRow : OpenClaim := { program := "ytfjjnccfiepjcaa", sum := "065b47c16fb44ab8a88bb9f1268520d8637c8be2b91529f7423926b6d09d9b95", func := "loop.example/g00199/laws.FnExactGetBig", spec := "fnExactGetBig", apart := false }
def FnExactGetBigSaid : Prop := fnExactGetBigRow.holds Try.pinned (OpenSpec.ofChange fnExactGetBigSpec)

/-- ITS FALSE NEIGHBOUR: 'it returns false'. Refute it at one input. -/
def fnExactGetBigWrong : ChangeSpec := { name := "fnExactGetBig", fn := fun _ => fun
  | [d1, d2, d3] => { results := [.lit (.bool false)], args := [d1, d2, d3] }
  | _ => none }
def FnExactGetBigWrongFalsely : Prop := fnExactGetBigRow.holds Try.pinned (OpenSpec.ofChange fnExactGetBigWrong)

/-- 'laws.FnExactCrc': WHATEVER THE INPUT: true; the input reads as it did. -/
def fnExactCrcSpec : ChangeSpec := { name := "fnExactCrc", fn := fun _ => fun
  | [d] => { results := [.lit (.bool true)], args := [d] }
  | _ => none }
def fnExactCrcRow : OpenClaim := { program := "ytfjjnccfiepjcaa", sum := "065b47c16fb44ab8a88bb9f1268520d8637c8be2b91529f7423926b6d09d9b95", func := "loop.example/g00199/laws.FnExactCrc", spec := "fnExactCrc", apart := false }
def FnExactCrcSaid : Prop := fnExactCrcRow.holds Try.pinned (OpenSpec.ofChange fnExactCrcSpec)

/-- ITS FALSE NEIGHBOUR: 'it returns false'. Refute it at one input. -/
def fnExactCrcWrong : ChangeSpec := { name := "fnExactCrc", fn := fun _ => fun
  | [d] => { results := [.lit (.bool false)], args := [d] }
  | _ => none }
def FnExactCrcWrongFalsely : Prop := fnExactCrcRow.holds Try.pinned (OpenSpec.ofChange fnExactCrcWrong)

/-- 'laws.FnExactPad': WHATEVER THE INPUT: true; the input reads as it did. -/
def fnExactPadSpec : ChangeSpec := { name := "fnExactPad", fn := fun _ => fun
  | [d1, d2] => { results := [.lit (.bool true)], args := [d1, d2] }
  | _ => none }
def fnExactPadRow : OpenClaim := { program := "ytfjjnccfiepjcaa", sum := "065b47c16fb44ab8a88bb9f1268520d8637c8be2b91529f7423926b6d09d9b95", func := "loop.example/g00199/laws.FnExactPad", spec := "fnExactPad", apart := false }
def FnExactPadSaid : Prop := fnExactPadRow.holds Try.pinned (OpenSpec.ofChange fnExactPadSpec)

/-- ITS FALSE NEIGHBOUR: 'it returns false'. Refute it at one input. -/
def fnExactPadWrong : ChangeSpec := { name := "fnExactPad", fn := fun _ => fun
  | [d1, d2] => { results := [.lit (.bool false)], args := [d1, d2] }
  | _ => none }
def FnExactPadWrongFalsely : Prop := fnExactPadRow.holds Try.pinned (OpenSpec.ofChange fnExactPadWrong)

/-- 'laws.FnExactPutGoAway': WHATEVER THE INPUT: true; the input reads as it did. -/
def fnExactPutGoAwaySpec : ChangeSpec := { name := "fnExactPutGoAway", fn := fun _ => fun
  | [d1, d2] => { results := [.lit (.bool true)], args := [d1, d2] }
  | _ => none }
def fnExactPutGoAwayRow : OpenClaim := { program := "ytfjjnccfiepjcaa", sum := "065b47c16fb44ab8a88bb9f1268520d8637c8be2b91529f7423926b6d09d9b95", func := "loop.example/g00199/laws.FnExactPutGoAway", spec := "fnExactPutGoAway", apart := false }
def FnExactPutGoAwaySaid : Prop := fnExactPutGoAwayRow.holds Try.pinned (OpenSpec.ofChange fnExactPutGoAwaySpec)

/-- ITS FALSE NEIGHBOUR: 'it returns false'. Refute it at one input. -/
def fnExactPutGoAwayWrong : ChangeSpec := { name := "fnExactPutGoAway", fn := fun _ => fun
  | [d1, d2] => { results := [.lit (.bool false)], args := [d1, d2] }
  | _ => none }
def FnExactPutGoAwayWrongFalsely : Prop := fnExactPutGoAwayRow.holds Try.pinned (OpenSpec.ofChange fnExactPutGoAwayWrong)

/-- 'laws.FnExactGetGoAway': WHATEVER THE INPUT: true; the input reads as it did. -/
def fnExactGetGoAwaySpec : ChangeSpec := { name := "fnExactGetGoAway", fn := fun _ => fun
  | [d] => { results := [.lit (.bool true)], args := [d] }
  | _ => none }
def fnExactGetGoAwayRow : OpenClaim := { program := "ytfjjnccfiepjcaa", sum := "065b47c16fb44ab8a88bb9f1268520d8637c8be2b91529f7423926b6d09d9b95", func := "loop.example/g00199/laws.FnExactGetGoAway", spec := "fnExactGetGoAway", apart := false }
def FnExactGetGoAwaySaid : Prop := fnExactGetGoAwayRow.holds Try.pinned (OpenSpec.ofChange fnExactGetGoAwaySpec)

/-- ITS FALSE NEIGHBOUR: 'it returns false'. Refute it at one input. -/
def fnExactGetGoAwayWrong : ChangeSpec := { name := "fnExactGetGoAway", fn := fun _ => fun
  | [d] => { results := [.lit (.bool false)], args := [d] }
  | _ => none }
def FnExactGetGoAwayWrongFalsely : Prop := fnExactGetGoAwayRow.holds Try.pinned (OpenSpec.ofChange fnExactGetGoAwayWrong)

/-- 'laws.FnExactWindowOf': WHATEVER THE INPUT: true; the input reads as it did. -/
def fnExactWindowOfSpec : ChangeSpec := { name := "fnExactWindowOf", fn := fun _ => fun
  | [d] => { results := [.lit (.bool true)], args := [d] }
  | _ => none }
def fnExactWindowOfRow : OpenClaim := { program := "ytfjjnccfiepjcaa", sum := "065b47c16fb44ab8a88bb9f1268520d8637c8be2b91529f7423926b6d09d9b95", func := "loop.example/g00199/laws.FnExactWindowOf", spec := "fnExactWindowOf", apart := false }
def FnExactWindowOfSaid : Prop := fnExactWindowOfRow.holds Try.pinned (OpenSpec.ofChange fnExactWindowOfSpec)

/-- ITS FALSE NEIGHBOUR: 'it returns false'. Refute it at one input. -/
def fnExactWindowOfWrong : ChangeSpec := { name := "fnExactWindowOf", fn := fun _ => fun
  | [d] => { results := [.lit (.bool false)], args := [d] }
  | _ => none }
def FnExactWindowOfWrongFalsely : Prop := fnExactWindowOfRow.holds Try.pinned (OpenSpec.ofChange fnExactWindowOfWrong)

/-- 'laws.FnExactFrameOk': WHATEVER THE INPUT: true; the input reads as it did. -/
def fnExactFrameOkSpec : ChangeSpec := { name := "fnExactFrameOk", fn := fun _ => fun
  | [d] => { results := [.lit (.bool true)], args := [d] }
  | _ => none }
def fnExactFrameOkRow : OpenClaim := { program := "ytfjjnccfiepjcaa", sum := "065b47c16fb44ab8a88bb9f1268520d8637c8be2b91529f7423926b6d09d9b95", func := "loop.example/g00199/laws.FnExactFrameOk", spec := "fnExactFrameOk", apart := false }
def FnExactFrameOkSaid : Prop := fnExactFrameOkRow.holds Try.pinned (OpenSpec.ofChange fnExactFrameOkSpec)

/-- ITS FALSE NEIGHBOUR: 'it returns false'. Refute it at one input. -/
def fnExactFrameOkWrong : ChangeSpec := { name := "fnExactFrameOk", fn := fun _ => fun
  | [d] => { results := [.lit (.bool false)], args := [d] }
  | _ => none }
def FnExactFrameOkWrongFalsely : Prop := fnExactFrameOkRow.holds Try.pinned (OpenSpec.ofChange fnExactFrameOkWrong)

/-- 'laws.FnExactGetPrefix': WHATEVER THE INPUT: true; the input reads as it did. -/
def fnExactGetPrefixSpec : ChangeSpec := { name := "fnExactGetPrefix", fn := fun _ => fun
  | [d1, d2, d3] => { results := [.lit (.bool true)], args := [d1, d2, d3] }
  | _ => none }
def fnExactGetPrefixRow : OpenClaim := { program := "ytfjjnccfiepjcaa", sum := "065b47c16fb44ab8a88bb9f1268520d8637c8be2b91529f7423926b6d09d9b95", func := "loop.example/g00199/laws.FnExactGetPrefix", spec := "fnExactGetPrefix", apart := false }
def FnExactGetPrefixSaid : Prop := fnExactGetPrefixRow.holds Try.pinned (OpenSpec.ofChange fnExactGetPrefixSpec)

/-- ITS FALSE NEIGHBOUR: 'it returns false'. Refute it at one input. -/
def fnExactGetPrefixWrong : ChangeSpec := { name := "fnExactGetPrefix", fn := fun _ => fun
  | [d1, d2, d3] => { results := [.lit (.bool false)], args := [d1, d2, d3] }
  | _ => none }
def FnExactGetPrefixWrongFalsely : Prop := fnExactGetPrefixRow.holds Try.pinned (OpenSpec.ofChange fnExactGetPrefixWrong)

/-- 'laws.FnExactGatherOk': WHATEVER THE INPUT: true; the input reads as it did. -/
def fnExactGatherOkSpec : ChangeSpec := { name := "fnExactGatherOk", fn := fun _ => fun
  | [d] => { results := [.lit (.bool true)], args := [d] }
  | _ => none }
def fnExactGatherOkRow : OpenClaim := { program := "ytfjjnccfiepjcaa", sum := "065b47c16fb44ab8a88bb9f1268520d8637c8be2b91529f7423926b6d09d9b95", func := "loop.example/g00199/laws.FnExactGatherOk", spec := "fnExactGatherOk", apart := false }
def FnExactGatherOkSaid : Prop := fnExactGatherOkRow.holds Try.pinned (OpenSpec.ofChange fnExactGatherOkSpec)

/-- ITS FALSE NEIGHBOUR: 'it returns false'. Refute it at one input. -/
def fnExactGatherOkWrong : ChangeSpec := { name := "fnExactGatherOk", fn := fun _ => fun
  | [d] => { results := [.lit (.bool false)], args := [d] }
  | _ => none }
def FnExactGatherOkWrongFalsely : Prop := fnExactGatherOkRow.holds Try.pinned (OpenSpec.ofChange fnExactGatherOkWrong)

/-- 'laws.FnExactPutBig': WHATEVER THE INPUT: true; the input reads as it did. -/
def fnExactPutBigSpec : ChangeSpec := { name := "fnExactPutBig", fn := fun _ => fun
  | [d1, d2, d3] => { results := [.lit (.bool true)], args := [d1, d2, d3] }
  | _ => none }
def fnExactPutBigRow : OpenClaim := { program := "ytfjjnccfiepjcaa", sum := "065b47c16fb44ab8a88bb9f1268520d8637c8be2b91529f7423926b6d09d9b95", func := "loop.example/g00199/laws.FnExactPutBig", spec := "fnExactPutBig", apart := false }
def FnExactPutBigSaid : Prop := fnExactPutBigRow.holds Try.pinned (OpenSpec.ofChange fnExactPutBigSpec)

/-- ITS FALSE NEIGHBOUR: 'it returns false'. Refute it at one input. -/
def fnExactPutBigWrong : ChangeSpec := { name := "fnExactPutBig", fn := fun _ => fun
  | [d1, d2, d3] => { results := [.lit (.bool false)], args := [d1, d2, d3] }
  | _ => none }
def FnExactPutBigWrongFalsely : Prop := fnExactPutBigRow.holds Try.pinned (OpenSpec.ofChange fnExactPutBigWrong)

/-- 'laws.FnExactPutSettings': WHATEVER THE INPUT: true; the input reads as it did. -/
def fnExactPutSettingsSpec : ChangeSpec := { name := "fnExactPutSettings", fn := fun _ => fun
  | [d] => { results := [.lit (.bool true)], args := [d] }
  | _ => none }
def fnExactPutSettingsRow : OpenClaim := { program := "ytfjjnccfiepjcaa", sum := "065b47c16fb44ab8a88bb9f1268520d8637c8be2b91529f7423926b6d09d9b95", func := "loop.example/g00199/laws.FnExactPutSettings", spec := "fnExactPutSettings", apart := false }
def FnExactPutSettingsSaid : Prop := fnExactPutSettingsRow.holds Try.pinned (OpenSpec.ofChange fnExactPutSettingsSpec)

/-- ITS FALSE NEIGHBOUR: 'it returns false'. Refute it at one input. -/
def fnExactPutSettingsWrong : ChangeSpec := { name := "fnExactPutSettings", fn := fun _ => fun
  | [d] => { results := [.lit (.bool false)], args := [d] }
  | _ => none }
def FnExactPutSettingsWrongFalsely : Prop := fnExactPutSettingsRow.holds Try.pinned (OpenSpec.ofChange fnExactPutSettingsWrong)

/- THE SECOND FORM. 'bulk': how many values and letters a reading holds, each counted each time it is reached (what is shared counts as often as it is met; a slice's spare places count too). A statement '..UptoSaid' is the law's where the arguments, and the package variables that the reading takes, are together of bulk at most 1048576: NARROWER than '..Said'. Prove '..Said' where nothing that the law and all that it calls make is longer than what came in: it says more and counts as full. Else prove '..UptoSaid'. A law counts once. -/
mutual
def uptoBulk {H : Type} : DataW H → Nat
  | .lit (.string bytes) => bytes.length + 1
  | .lit _ => 1
  | .nil => 1
  | .ptr d => uptoBulk d + 1
  | .slice elems spare => uptoBulkAll elems + uptoBulkAll spare + 1
  | .agg parts => uptoBulkAll parts + 1
  | .iface _ d => uptoBulk d + 1
  | .map entries => uptoBulkEntries entries + 1
  | .held _ => 1
def uptoBulkAll {H : Type} : List (DataW H) → Nat
  | [] => 0
  | d :: r => uptoBulk d + uptoBulkAll r
def uptoBulkEntries {H : Type} : List (Lit × DataW H) → Nat
  | [] => 0
  | x :: r => uptoBulkEntry x + uptoBulkEntries r
def uptoBulkEntry {H : Type} : Lit × DataW H → Nat
  | (.string bytes, d) => bytes.length + uptoBulk d + 1
  | (_, d) => uptoBulk d + 1
 end
def uptoSmall : (H : Type) → List (DataW H) → Bool := fun _ ds => decide (uptoBulkAll ds ≤ 1048576)
def OpenSpec.upto (s : _root_.Go.ChangeSpec) : _root_.Go.OpenSpec := { _root_.Go.OpenSpec.ofChange s with cond := some uptoSmall }

/-- 'laws.FnExactConstants', WHERE WHAT IT READS IS OF BULK AT MOST 1048576: true; the input reads as it did. -/
def fnExactConstantsUptoRow : OpenClaim := { program := "ytfjjnccfiepjcaa", sum := "065b47c16fb44ab8a88bb9f1268520d8637c8be2b91529f7423926b6d09d9b95", func := "loop.example/g00199/laws.FnExactConstants", spec := "fnExactConstants", apart := false, narrowed := true }
def FnExactConstantsUptoSaid : Prop := fnExactConstantsUptoRow.holds Try.pinned (OpenSpec.upto fnExactConstantsSpec)

/-- 'laws.FnExactGetBig', WHERE WHAT IT READS IS OF BULK AT MOST 1048576: true; the input reads as it did. -/
def fnExactGetBigUptoRow : OpenClaim := { program := "ytfjjnccfiepjcaa", sum := "065b47c16fb44ab8a88bb9f1268520d8637c8be2b91529f7423926b6d09d9b95", func := "loop.example/g00199/laws.FnExactGetBig", spec := "fnExactGetBig", apart := false, narrowed := true }
def FnExactGetBigUptoSaid : Prop := fnExactGetBigUptoRow.holds Try.pinned (OpenSpec.upto fnExactGetBigSpec)

/-- 'laws.FnExactCrc', WHERE WHAT IT READS IS OF BULK AT MOST 1048576: true; the input reads as it did. -/
def fnExactCrcUptoRow : OpenClaim := { program := "ytfjjnccfiepjcaa", sum := "065b47c16fb44ab8a88bb9f1268520d8637c8be2b91529f7423926b6d09d9b95", func := "loop.example/g00199/laws.FnExactCrc", spec := "fnExactCrc", apart := false, narrowed := true }
def FnExactCrcUptoSaid : Prop := fnExactCrcUptoRow.holds Try.pinned (OpenSpec.upto fnExactCrcSpec)

/-- 'laws.FnExactPad', WHERE WHAT IT READS IS OF BULK AT MOST 1048576: true; the input reads as it did. -/
def fnExactPadUptoRow : OpenClaim := { program := "ytfjjnccfiepjcaa", sum := "065b47c16fb44ab8a88bb9f1268520d8637c8be2b91529f7423926b6d09d9b95", func := "loop.example/g00199/laws.FnExactPad", spec := "fnExactPad", apart := false, narrowed := true }
def FnExactPadUptoSaid : Prop := fnExactPadUptoRow.holds Try.pinned (OpenSpec.upto fnExactPadSpec)

/-- 'laws.FnExactPutGoAway', WHERE WHAT IT READS IS OF BULK AT MOST 1048576: true; the input reads as it did. -/
def fnExactPutGoAwayUptoRow : OpenClaim := { program := "ytfjjnccfiepjcaa", sum := "065b47c16fb44ab8a88bb9f1268520d8637c8be2b91529f7423926b6d09d9b95", func := "loop.example/g00199/laws.FnExactPutGoAway", spec := "fnExactPutGoAway", apart := false, narrowed := true }
def FnExactPutGoAwayUptoSaid : Prop := fnExactPutGoAwayUptoRow.holds Try.pinned (OpenSpec.upto fnExactPutGoAwaySpec)

/-- 'laws.FnExactGetGoAway', WHERE WHAT IT READS IS OF BULK AT MOST 1048576: true; the input reads as it did. -/
def fnExactGetGoAwayUptoRow : OpenClaim := { program := "ytfjjnccfiepjcaa", sum := "065b47c16fb44ab8a88bb9f1268520d8637c8be2b91529f7423926b6d09d9b95", func := "loop.example/g00199/laws.FnExactGetGoAway", spec := "fnExactGetGoAway", apart := false, narrowed := true }
def FnExactGetGoAwayUptoSaid : Prop := fnExactGetGoAwayUptoRow.holds Try.pinned (OpenSpec.upto fnExactGetGoAwaySpec)

/-- 'laws.FnExactWindowOf', WHERE WHAT IT READS IS OF BULK AT MOST 1048576: true; the input reads as it did. -/
def fnExactWindowOfUptoRow : OpenClaim := { program := "ytfjjnccfiepjcaa", sum := "065b47c16fb44ab8a88bb9f1268520d8637c8be2b91529f7423926b6d09d9b95", func := "loop.example/g00199/laws.FnExactWindowOf", spec := "fnExactWindowOf", apart := false, narrowed := true }
def FnExactWindowOfUptoSaid : Prop := fnExactWindowOfUptoRow.holds Try.pinned (OpenSpec.upto fnExactWindowOfSpec)

/-- 'laws.FnExactFrameOk', WHERE WHAT IT READS IS OF BULK AT MOST 1048576: true; the input reads as it did. -/
def fnExactFrameOkUptoRow : OpenClaim := { program := "ytfjjnccfiepjcaa", sum := "065b47c16fb44ab8a88bb9f1268520d8637c8be2b91529f7423926b6d09d9b95", func := "loop.example/g00199/laws.FnExactFrameOk", spec := "fnExactFrameOk", apart := false, narrowed := true }
def FnExactFrameOkUptoSaid : Prop := fnExactFrameOkUptoRow.holds Try.pinned (OpenSpec.upto fnExactFrameOkSpec)

/-- 'laws.FnExactGetPrefix', WHERE WHAT IT READS IS OF BULK AT MOST 1048576: true; the input reads as it did. -/
def fnExactGetPrefixUptoRow : OpenClaim := { program := "ytfjjnccfiepjcaa", sum := "065b47c16fb44ab8a88bb9f1268520d8637c8be2b91529f7423926b6d09d9b95", func := "loop.example/g00199/laws.FnExactGetPrefix", spec := "fnExactGetPrefix", apart := false, narrowed := true }
def FnExactGetPrefixUptoSaid : Prop := fnExactGetPrefixUptoRow.holds Try.pinned (OpenSpec.upto fnExactGetPrefixSpec)

/-- 'laws.FnExactGatherOk', WHERE WHAT IT READS IS OF BULK AT MOST 1048576: true; the input reads as it did. -/
def fnExactGatherOkUptoRow : OpenClaim := { program := "ytfjjnccfiepjcaa", sum := "065b47c16fb44ab8a88bb9f1268520d8637c8be2b91529f7423926b6d09d9b95", func := "loop.example/g00199/laws.FnExactGatherOk", spec := "fnExactGatherOk", apart := false, narrowed := true }
def FnExactGatherOkUptoSaid : Prop := fnExactGatherOkUptoRow.holds Try.pinned (OpenSpec.upto fnExactGatherOkSpec)

/-- 'laws.FnExactPutBig', WHERE WHAT IT READS IS OF BULK AT MOST 1048576: true; the input reads as it did. -/
def fnExactPutBigUptoRow : OpenClaim := { program := "ytfjjnccfiepjcaa", sum := "065b47c16fb44ab8a88bb9f1268520d8637c8be2b91529f7423926b6d09d9b95", func := "loop.example/g00199/laws.FnExactPutBig", spec := "fnExactPutBig", apart := false, narrowed := true }
def FnExactPutBigUptoSaid : Prop := fnExactPutBigUptoRow.holds Try.pinned (OpenSpec.upto fnExactPutBigSpec)

/-- 'laws.FnExactPutSettings', WHERE WHAT IT READS IS OF BULK AT MOST 1048576: true; the input reads as it did. -/
def fnExactPutSettingsUptoRow : OpenClaim := { program := "ytfjjnccfiepjcaa", sum := "065b47c16fb44ab8a88bb9f1268520d8637c8be2b91529f7423926b6d09d9b95", func := "loop.example/g00199/laws.FnExactPutSettings", spec := "fnExactPutSettings", apart := false, narrowed := true }
def FnExactPutSettingsUptoSaid : Prop := fnExactPutSettingsUptoRow.holds Try.pinned (OpenSpec.upto fnExactPutSettingsSpec)

end Rows
end Go.Proofs.Ytfjjnccfiepjcaa
