/- For every input: FnUncoded answers true: drawn bytes that have a text are just its code. No condition. -/
import Derived.Test.YthflimnpiglgbaaDoorLibZ1
import Derived.Test.YthflimnpiglgbaaDoorAx6
import Derived.Test.YthflimnpiglgbaaDoorAx10
import Derived.Test.YthflimnpiglgbaaDoorAx18
import Derived.Test.YthflimnpiglgbaaDoorAx26
import Derived.Test.YthflimnpiglgbaaDoorAx27
import Derived.Test.YthflimnpiglgbaaDoorAx28
set_option linter.unusedVariables false
set_option linter.unusedSimpArgs false
namespace Go.Proofs.YthflimnpiglgbaaDoor.Pure
open Go.RowKit Go.Proofs.YthflimnpiglgbaaDoor.A Go.Proofs.YthflimnpiglgbaaDoorW.PrintWords Go.Proofs.YthflimnpiglgbaaDoorW.PrintLast Go.Proofs.YthflimnpiglgbaaDoorW.PrintMore Go.Proofs.YthflimnpiglgbaaDoor.LibU
theorem sameBytes_l (l : List Int) (hl : l.length ≤ 9223372036854775806) (d : Nat) : ∀ (k : Nat) (i : Nat), i ≤ l.length → l.length - i = d → d < k → laws_sameBytes.l0 k l l (i : Int) = some true := by
  induction d with
  | zero =>
    intro k i hi hd hk
    obtain ⟨k, rfl⟩ := ix (show 0 < k by omega)
    simp only [laws_sameBytes.l0]
    rw [if_neg (by omega)]
  | succ d ih =>
    intro k i hi hd hk
    obtain ⟨k, rfl⟩ := ix (show 0 < k by omega)
    simp only [laws_sameBytes.l0]
    rw [if_pos (by omega), if_pos (by omega), if_pos (by omega), if_pos trivial, w64 (by omega) (by omega)]
    exact ih k (i + 1) (by omega) (by omega) (by omega)
theorem sameBytes {l : List Int} (hl : l.length ≤ 9223372036854775806) : ∀ k, l.length < k → laws_sameBytes.f k l l = some true := by
  intro k hk
  unfold laws_sameBytes.f
  rw [if_pos rfl]
  exact sameBytes_l l hl l.length k 0 (by omega) (by omega) (by omega)
theorem xor_u8 (x y : Int) : 0 ≤ Go.bits .xor .u8 x y ∧ Go.bits .xor .u8 x y ≤ 255 := by
  have e : ∀ z : Int, 0 ≤ IntKind.u8.wrap z ∧ IntKind.u8.wrap z ≤ 255 := by
    intro z
    unfold IntKind.wrap
    simp only [IntKind.signed, IntKind.bits, Bool.false_and, Bool.false_eq_true, if_false]
    omega
  exact e _
theorem bytes_set {l : List Int} (h : LibHb.Bytes l) (i : Nat) (x : Int) (hx : 0 ≤ x ∧ x ≤ 255) : LibHb.Bytes (l.set i x) := by
  intro y hy
  rcases List.mem_or_eq_of_mem_set hy with hy | rfl
  · exact h y hy
  · exact hx
theorem drawUn (l : List Int) (hl : l.length ≤ 140737488351232) : ∃ K b, (∀ k, K ≤ k → spec_DrawUnHuff.f k l = some b) ∧ LibHb.Bytes b ∧ b.length ≤ 5000 := by
  obtain ⟨K, q, h1, h2⟩ := LibD.l1New l hl
  obtain ⟨s, i1, q1, g1, g2, g3⟩ := LibDs.l3Some l 0 q h2
  obtain ⟨K2, r, r1, r2, r3, r4, _, _⟩ := LibSh.spec_huff s (by omega)
  obtain ⟨x, i2, q2, e, hx0, hx1, _, hi2⟩ := LibD.l1Below l i1 q1 4 (by omega) g3
  by_cases c0 : x = 0
  · obtain ⟨K3, m, i3, q3, m1, m2, m3, _⟩ := LibD.l1Some l i2 q2 hi2
    refine ⟨K + K2 + K3 + 10, m, fun k hk => ?_, m2, by omega⟩
    unfold spec_DrawUnHuff.f
    refine bs (h1 k (by omega)) ?_
    refine bs (g1 k (by omega)) ?_
    refine bs (r4 k (by omega)) ?_
    refine bs e ?_
    rw [if_pos c0]
    exact bs (m1 k (by omega)) rfl
  by_cases c1 : x = 1
  · by_cases cl : (r.length : Int) > 0
    · obtain ⟨y, i3, q3, e3, hy0, hy1, _, hi3⟩ := LibD.l1Below l i2 q2 8 (by omega) hi2
      refine ⟨K + K2 + 10, _, fun k hk => ?_, bytes_set r1 (wrap64 ((r.length : Int) - 1)).toNat _ (xor_u8 (rd r (wrap64 ((r.length : Int) - 1))) (shl .u8 1 (IntKind.u64.wrap y))), by rw [List.length_set]; omega⟩
      unfold spec_DrawUnHuff.f
      refine bs (h1 k (by omega)) ?_
      refine bs (g1 k (by omega)) ?_
      refine bs (r4 k (by omega)) ?_
      refine bs e ?_
      have hw := w64 (x := (r.length : Int) - 1) (by omega) (by omega)
      rw [if_neg c0, if_pos c1, if_pos cl, if_pos (by rw [hw]; omega), if_pos (by rw [hw]; omega)]
      refine bs e3 ?_
      rw [if_pos (u64_nn _)]
    · refine ⟨K + K2 + 10, r, fun k hk => ?_, r1, by omega⟩
      unfold spec_DrawUnHuff.f
      refine bs (h1 k (by omega)) ?_
      refine bs (g1 k (by omega)) ?_
      refine bs (r4 k (by omega)) ?_
      refine bs e ?_
      rw [if_neg c0, if_pos c1, if_neg cl]
  by_cases c2 : x = 2
  · refine ⟨K + K2 + 10, r ++ [255], fun k hk => ?_, ?_, by simp; omega⟩
    · unfold spec_DrawUnHuff.f
      refine bs (h1 k (by omega)) ?_
      refine bs (g1 k (by omega)) ?_
      refine bs (r4 k (by omega)) ?_
      refine bs e ?_
      rw [if_neg c0, if_neg c1, if_pos c2, if_pos (by omega)]
    · intro y hy
      simp only [List.mem_append, List.mem_singleton] at hy
      rcases hy with hy | rfl
      · exact r1 y hy
      · omega
  · refine ⟨K + K2 + 10, r, fun k hk => ?_, r1, by omega⟩
    unfold spec_DrawUnHuff.f
    refine bs (h1 k (by omega)) ?_
    refine bs (g1 k (by omega)) ?_
    refine bs (r4 k (by omega)) ?_
    refine bs e ?_
    rw [if_neg c0, if_neg c1, if_neg c2]
theorem FnUncoded : laws_FnUncoded.Pure := by
  intro l _ hl hw
  by_cases hbig : (l.length : Int) > 1048576
  · refine ⟨0, ?_⟩
    unfold laws_FnUncoded.f
    refine bs (show laws_big.f l = some true from by unfold laws_big.f; rw [decide_eq_true hbig]) ?_
    rw [if_pos rfl]
  obtain ⟨K0, b, h0, hb, hbl⟩ := drawUn l (by omega)
  obtain ⟨K1, r, js, rest, _, _, hr, _, hc, h2, h3⟩ := LibUx.both b (by omega) hb
  have h4 := sameBytes (l := b) (by omega)
  have h3' : ∀ k, K1 ≤ k → impl_UnHuff.f k b = some r := h3
  refine ⟨K0 + K1 + b.length + 1, ?_⟩
  unfold laws_FnUncoded.f
  refine bs (show laws_big.f l = some false from by unfold laws_big.f; rw [decide_eq_false hbig]) ?_
  rw [if_neg (by decide)]
  refine bs (h0 _ (by omega)) ?_
  refine bs (h3' _ (by omega)) ?_
  refine bs (h2 _ (by omega)) ?_
  rw [if_pos (by simp)]
  by_cases ht : r.2 = true
  · rw [if_pos ht]
    refine bs (show impl_Huff.f (K0 + K1 + b.length + 1) r.1 = some b from hc ht _ (by omega)) ?_
    refine bs (h4 _ (by omega)) ?_
    rfl
  · rw [if_neg ht]
    rcases hr with hr | hr
    · rw [hr] at ht; exact absurd rfl ht
    · rw [hr]
      rw [if_pos (show (⟨#[]⟩ : ByteArray).toList = [] by decide +kernel)]
end Go.Proofs.YthflimnpiglgbaaDoor.Pure
