/- The map of all codes, as it is read: what a look-up in it finds. Condition: each theorem's own bounds. -/
import Derived.Test.YthflimnpiglgbaaDoorLibHuff
import Derived.Maps.OwnSet
import Derived.Maps.OwnOps
import Derived.Maps.Views
import Derived.DeepKeys4
set_option linter.unusedVariables false
set_option linter.unusedSimpArgs false
namespace Go.Proofs.YthflimnpiglgbaaDoor.LibMap
open Go Go.RowKit Go.Maps Go.ChangeShapes Go.WideShapes Go.Proofs.YthflimnpiglgbaaDoorW.PrintWords Go.Proofs.YthflimnpiglgbaaDoor.LibLens Go.Proofs.YthflimnpiglgbaaDoor.LibHuff
set_option maxRecDepth 100000 in
theorem laidOut : laidOutB Tryd.prog = true := by kernel_rfl
set_option maxRecDepth 100000 in
theorem row47 : (47 : TypeId) < Tryd.prog.types.size := of_decide_eq_true (by kernel_rfl)
set_option maxRecDepth 100000 in
theorem wide47 : (match Tryd.prog.underlying 47 with | some (.array _ _) | some (.struct _) => true | _ => false) = true := by rw [Tryd.underlying47]
set_option maxRecDepth 100000 in
theorem law : Keyed Tryd.prog 47 := Keyed.of_law (deep_law_laid laidOut (m := 2) (by omega) row47 (by kernel_rfl) wide47)
def agg (p : Int × Int) : Value := .agg #[.int .i64 p.1, .int .i64 p.2]
def wf (p : Int × Int) : Prop := (-9223372036854775808 ≤ p.1 ∧ p.1 ≤ 9223372036854775807) ∧ (-9223372036854775808 ≤ p.2 ∧ p.2 ≤ 9223372036854775807)
def kl (p : Int × Int) : Lit := .string (keyBytes [.int .i64 p.1, .int .i64 p.2])
theorem wf_i64 {x : Int} (h : -9223372036854775808 ≤ x ∧ x ≤ 9223372036854775807) : (Lit.int .i64 x).wf = true := by
  simp only [Lit.wf, IntKind.min, IntKind.max, IntKind.signed, IntKind.bits, Bool.and_eq_true, decide_eq_true_eq, if_true]
  omega
set_option maxRecDepth 100000 in
theorem cells3 : Tryd.prog.cellsOf 3 = 1 := by kernel_rfl
set_option maxRecDepth 100000 in
theorem cells47 : Tryd.prog.cellsOf 47 = 2 := by kernel_rfl
set_option maxRecDepth 100000 in
theorem keyT : Tryd.prog.keyType 47 = true := by kernel_rfl
theorem size_of {P : Program} {t : TypeId} (h : t < P.types.size) : ∃ n, P.types.size + 1 = n + 2 := by
  have h0 : 0 < P.types.size := Nat.lt_of_le_of_lt (Nat.zero_le t) h
  exact ⟨P.types.size - 1, by omega⟩
theorem sizeT : ∃ n, Tryd.prog.types.size + 1 = n + 2 := size_of row47
theorem key_of (p : Int × Int) (h : wf p) : keyOf Tryd.prog 47 (agg p) = some (kl p) := by
  obtain ⟨n, hn⟩ := sizeT
  unfold keyOf
  simp only [Tryd.underlying47]
  have hf : (agg p).formed Tryd.prog 47 = true := by simp [agg, Value.formed, Tryd.underlying47, cells47]
  rw [keyT, hf, hn]
  simp [agg, Value.cells, Program.keyLits, Tryd.underlying47, Tryd.underlying3, cells47, cells3, wf_i64 h.1, wf_i64 h.2, kl]
theorem kl_inj {p q : Int × Int} (hp : wf p) (hq : wf q) (h : kl p = kl q) : p = q := by
  have h1 := key_of p hp
  have h2 := key_of q hq
  rw [← h] at h2
  have := law.inj h1 h2
  obtain ⟨a, b⟩ := p
  obtain ⟨c, d⟩ := q
  simp [agg] at this
  rw [this.1, this.2]
theorem isKey (p : Int × Int) (h : wf p) : WideAt.IsKeyLit (kl p) := law.key (key_of p h)
/-- The last of the first k codes that is q. -/
def lookN (q : Int × Int) : Nat → Option Nat
  | 0 => none
  | k + 1 => if codes.getD k (0, 0) = q then some k else lookN q k
/-- The map behind k rounds. -/
def D : Nat → DataW Unit
  | 0 => .map []
  | k + 1 => (D k).put (kl (codes.getD k (0, 0))) (.lit (.int .i64 (k : Int)))
theorem codes_wf : ∀ p ∈ codes, wf p := by unfold wf; decide +kernel
theorem code_wf (k : Nat) : wf (codes.getD k (0, 0)) := by
  by_cases h : k < codes.length
  · have e : codes.getD k (0, 0) = codes[k] := by simp [List.getD_eq_getElem?_getD, List.getElem?_eq_getElem h]
    rw [e]
    exact codes_wf _ (List.getElem_mem h)
  · have e : codes.getD k (0, 0) = (0, 0) := by simp [List.getD_eq_getElem?_getD, List.getElem?_eq_none (show codes.length ≤ k by omega)]
    rw [e]
    unfold wf
    decide
theorem D_isMap (k : Nat) : IsMap (D k) := by
  induction k with
  | zero => exact ⟨[], rfl⟩
  | succ k ih => exact IsMap.put ih _ _
theorem D_has (q : Int × Int) (hq : wf q) (k : Nat) : Maps.has (D k) (kl q) = (lookN q k).isSome := by
  induction k with
  | zero => rfl
  | succ k ih =>
    unfold D lookN
    by_cases h : codes.getD k (0, 0) = q
    · rw [if_pos h, h]
      exact has_put_same (D_isMap k) (isKey q hq) _
    · rw [if_neg h, has_put_other (fun e => h (kl_inj (code_wf k) hq e.symm)), ih]
theorem D_at (q : Int × Int) (hq : wf q) (k : Nat) : (D k).atKey (kl q) (.lit (.int .i64 0)) = .lit (.int .i64 (((lookN q k).getD 0 : Nat) : Int)) := by
  induction k with
  | zero => rfl
  | succ k ih =>
    unfold D lookN
    by_cases h : codes.getD k (0, 0) = q
    · rw [if_pos h, h]
      exact atKey_put_same (D_isMap k) (isKey q hq) _ _
    · rw [if_neg h, atKey_put_other (fun e => h (kl_inj (code_wf k) hq e.symm)), ih]
def lookC (q : Int × Int) : Option Nat := lookN q 257
theorem lookN_lt (q : Int × Int) (k j : Nat) (h : lookN q k = some j) : j < k := by
  induction k with
  | zero => cases h
  | succ k ih =>
    unfold lookN at h
    by_cases e : codes.getD k (0, 0) = q
    · rw [if_pos e] at h; cases h; omega
    · rw [if_neg e] at h; have := ih h; omega
theorem zero3 (w : World) : (zeroValue 3).run Tryd.prog w = .ok (.int .i64 0) w := by kernel_rfl
end Go.Proofs.YthflimnpiglgbaaDoor.LibMap
