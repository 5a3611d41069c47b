/- For every input: FnPadded answers true: a drawn body comes back of its padded bytes, and an unpadded frame keeps its own. No condition. -/
import Derived.Test.YtkhcnmjgojkkoaaLibE
import Derived.Test.YtkhcnmjgojkkoaaLibG
import Derived.Test.YtkhcnmjgojkkoaaLibGv
import Derived.Test.YtkhcnmjgojkkoaaLibUn
import Derived.Test.YtkhcnmjgojkkoaaLibD2
import Derived.Test.YtkhcnmjgojkkoaaAx23
import Derived.Test.YtkhcnmjgojkkoaaAx41
import Derived.Test.YtkhcnmjgojkkoaaAx43
import Derived.Test.YtkhcnmjgojkkoaaAx44
import Derived.Test.YtkhcnmjgojkkoaaAx45
set_option linter.unusedVariables false
set_option linter.unusedSimpArgs false
namespace Go.Proofs.Ytkhcnmjgojkkoaa.Pure
open Go.RowKit Go.Proofs.Ytkhcnmjgojkkoaa.A Go.Proofs.YtkhcnmjgojkkoaaW.PrintWords Go.Proofs.YtkhcnmjgojkkoaaW.PrintLast Go.Proofs.YtkhcnmjgojkkoaaW.PrintMore Go.Proofs.Ytkhcnmjgojkkoaa.LibU Go.Proofs.Ytkhcnmjgojkkoaa.LibE Go.Proofs.Ytkhcnmjgojkkoaa.LibG Go.Proofs.Ytkhcnmjgojkkoaa.LibD Go.Proofs.Ytkhcnmjgojkkoaa.LibUn
theorem drawPad (l : List Int) (hl : l.length ≤ 1048576) : ∃ K b n, (∀ k, K ≤ k → spec_DrawPad.f k l = some (b, n)) ∧ Bytes b ∧ b.length ≤ 9 := by
  obtain ⟨K1, q, e1, hi⟩ := l1New l (by omega)
  obtain ⟨K2, b, i2, q2, e2, hb, hblen, hi2⟩ := l1Some l 0 q hi
  obtain ⟨n, i3, q3, e3, h3, hi3⟩ := l1Int l i2 q2 [0, 1, 7, 255, 256, (-1)] (by decide) hi2
  refine ⟨K1 + K2, b, n, fun k hk => ?_, hb, hblen⟩
  unfold spec_DrawPad.f
  exact bs (e1 k (by omega)) (bs (e2 k (by omega)) (bs e3 rfl))
/-- A body between its length byte and its zeros. -/
def padOf (b : List Int) (d : Nat) : List Int := (d : Int) :: (b ++ List.replicate d 0)
theorem impl_pad (b : List Int) (n : Int) (hb : b.length ≤ 9) : ∃ d : Nat, d ≤ 255 ∧ impl_Pad.f b n = some (padOf b d) := by
  have e : ∃ d : Nat, d ≤ 255 ∧ mx 0 (mn n 255) = (d : Int) := by
    refine ⟨(mx 0 (mn n 255)).toNat, ?_, ?_⟩ <;> (unfold mx mn; repeat' split) <;> omega
  obtain ⟨d, hd, e⟩ := e
  refine ⟨d, hd, ?_⟩
  unfold impl_Pad.f
  rw [e]
  simp only [Option.bind_some, List.length_append, List.length_cons, List.length_nil]
  rw [if_pos (by omega), if_pos (by omega), if_pos (by omega)]
  simp [padOf]
theorem sameBytes_l (l : List Int) (hl : l.length ≤ 9223372036854775806) (d : Nat) : ∀ (k : Nat) (i : Nat), i ≤ l.length → l.length - i = d → d < k → laws_sameBytes.l0 k l l (i : Int) = some true := by
  induction d with
  | zero =>
    intro k i hi hd hk
    obtain ⟨k, rfl⟩ := ix (show 0 < k by omega)
    simp only [laws_sameBytes.l0]
    rw [if_neg (by omega)]
  | succ d ih =>
    intro k i hi hd hk
    obtain ⟨k, rfl⟩ := ix (show 0 < k by omega)
    simp only [laws_sameBytes.l0]
    rw [if_pos (by omega), if_pos (by omega), if_pos (by omega), if_pos trivial, w64 (by omega) (by omega)]
    exact ih k (i + 1) (by omega) (by omega) (by omega)
theorem sameBytes {l : List Int} (hl : l.length ≤ 9223372036854775806) : ∃ K, ∀ k, K ≤ k → laws_sameBytes.f k l l = some true := by
  refine ⟨l.length + 1, fun k hk => ?_⟩
  unfold laws_sameBytes.f
  rw [if_pos rfl]
  exact sameBytes_l l hl l.length k 0 (by omega) (by omega) (by omega)
theorem st8 (a : Int) : stAhead a 8 = 0 := by
  unfold stAhead
  rw [if_neg (fun h => h.2 (by decide))]
theorem unpad_pad (a : Int) (b : List Int) (d : Nat) : unpad a 8 (padOf b d) = (b, true) := by
  unfold unpad
  rw [if_neg (by decide), if_neg (by simp [padOf])]
  have e0 : rd (padOf b d) 0 = (d : Int) := rd_nat (padOf b d) 0
  have e1 : (padOf b d).drop 1 = b ++ List.replicate d 0 := rfl
  rw [e0, e1]
  unfold unpadB
  rw [st8, if_neg (by simp; omega)]
  have e2 : (((b ++ List.replicate d (0 : Int)).length : Int) - (d : Int)).toNat = b.length := by simp
  rw [e2]
  simp
theorem unpad_none (a : Int) (l : List Int) : unpad a 0 l = (l, true) := by
  unfold unpad unpadB
  have e : stAhead a 0 = 0 := by
    unfold stAhead
    rw [if_neg (fun h => h.2 (by decide))]
  rw [if_pos (by decide), e, if_neg (by omega), List.take_of_length_le (by omega)]
  rfl
theorem window5 : ∃ K, ∀ k, K ≤ k → impl_WindowOf.f k [128, 0, 0, 5] = some (5, true) := by
  obtain ⟨K, h⟩ := impl_gb (l := [128, 0, 0, 5]) (a := 0) (b := 4) (by decide) (by omega) (by omega)
  refine ⟨K + 1, fun k hk => ?_⟩
  obtain ⟨k, rfl⟩ := ix (show 0 < k by omega)
  have e1 : gbFold 0 [128, 0, 0, 5] = 2147483653 := by
    rw [gbFold_eq [128, 0, 0, 5] 0 (by intro x hx; simp at hx; omega) (by omega) (by decide)]
    decide
  have e : gb [128, 0, 0, 5] 0 4 = (2147483653, true) := by
    unfold gb
    rw [if_pos (by decide)]
    exact congrArg (fun x => (x, true)) e1
  unfold impl_WindowOf.f
  refine bs (h _ (by omega)) ?_
  rw [e]
  refine ifp rfl (ifp (by decide) ?_)
  rw [show Go.bits .and .i64 2147483653 2147483647 = 5 by decide]
  rfl
theorem FnPadded : laws_FnPadded.Pure := by
  intro l _ hl2 hw
  have hbig : laws_big.f l = some (decide ((l.length : Int) > 1048576)) := rfl
  by_cases h : (l.length : Int) > 1048576
  · refine ⟨0, ?_⟩
    unfold laws_FnPadded.f
    refine bs hbig ?_
    rw [if_pos (decide_eq_true h)]
  obtain ⟨K1, b, n, hd, hb, hbl⟩ := drawPad l (by omega)
  obtain ⟨d, hd2, hp⟩ := impl_pad b n hbl
  have hpl : (padOf b d).length = b.length + d + 1 := by simp [padOf]
  have hpb : ∀ x ∈ padOf b d, 0 ≤ x ∧ x ≤ 255 := by
    intro x hx
    simp only [padOf, List.mem_cons, List.mem_append, List.mem_replicate] at hx
    rcases hx with hx | hx | hx
    · omega
    · exact hb x hx
    · omega
  obtain ⟨K2, hw5⟩ := window5
  obtain ⟨K3, hs1⟩ := sameBytes (l := b) (by omega)
  obtain ⟨K4, hs2⟩ := sameBytes (l := padOf b d) (by omega)
  refine ⟨K1 + K2 + K3 + K4 + 3, ?_⟩
  unfold laws_FnPadded.f
  refine bs hbig ?_
  rw [if_neg (by simpa using h)]
  refine bs (hd _ (by omega)) (bs hp ?_)
  refine bs (impl_unpad (by omega) hpb _ (by omega)) ?_
  refine bs (impl_unpad (by omega) hpb _ (by omega)) ?_
  refine bs (impl_unpad (by omega) hpb _ (by omega)) ?_
  refine bs (hw5 _ (by omega)) ?_
  rw [unpad_pad, unpad_pad, unpad_none]
  refine ifp rfl (ifp rfl (ifp rfl ?_))
  refine bs (hs1 _ (by omega)) (ifp rfl (bs (hs1 _ (by omega)) (ifp rfl (bs (hs2 _ (by omega)) (ifp rfl ?_)))))
  rw [w64 (by simp only; omega) (by simp only; omega), if_pos (by simp only; omega)]
  rfl
end Go.Proofs.Ytkhcnmjgojkkoaa.Pure
