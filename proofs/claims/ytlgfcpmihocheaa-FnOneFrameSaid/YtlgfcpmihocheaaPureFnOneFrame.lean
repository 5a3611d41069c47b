/- For every input: FnOneFrame answers true: a drawn frame comes back of its bytes behind others, or none is written; its code is the reference's. No condition. -/
import Derived.Test.YtlgfcpmihocheaaLibM
import Derived.Test.YtlgfcpmihocheaaAx1
import Derived.Test.YtlgfcpmihocheaaAx3
import Derived.Test.YtlgfcpmihocheaaAx9
import Derived.Test.YtlgfcpmihocheaaAx10
import Derived.Test.YtlgfcpmihocheaaAx16
import Derived.Test.YtlgfcpmihocheaaAx17
import Derived.Test.YtlgfcpmihocheaaAx18
import Derived.Test.YtlgfcpmihocheaaAx21
set_option linter.unusedVariables false
set_option linter.unusedSimpArgs false
namespace Go.Proofs.Ytlgfcpmihocheaa.Pure
open Go.RowKit Go.Proofs.Ytlgfcpmihocheaa.A Go.Proofs.YtlgfcpmihocheaaW.PrintWords Go.Proofs.YtlgfcpmihocheaaW.PrintLast Go.Proofs.YtlgfcpmihocheaaW.PrintMore Go.Proofs.Ytlgfcpmihocheaa.LibU Go.Proofs.Ytlgfcpmihocheaa.LibD Go.Proofs.Ytlgfcpmihocheaa.LibF0 Go.Proofs.Ytlgfcpmihocheaa.LibG Go.Proofs.Ytlgfcpmihocheaa.LibGF Go.Proofs.Ytlgfcpmihocheaa.LibFR Go.Proofs.Ytlgfcpmihocheaa.LibDF Go.Proofs.Ytlgfcpmihocheaa.LibFC
theorem sameBytes_l (l : List Int) (hl : l.length ≤ 9223372036854775806) (d : Nat) : ∀ (k : Nat) (i : Nat), i ≤ l.length → l.length - i = d → d < k → laws_sameBytes.l0 k l l (i : Int) = some true := by
  induction d with
  | zero =>
    intro k i hi hd hk
    obtain ⟨k, rfl⟩ := ix (show 0 < k by omega)
    simp only [laws_sameBytes.l0]
    rw [if_neg (by omega)]
  | succ d ih =>
    intro k i hi hd hk
    obtain ⟨k, rfl⟩ := ix (show 0 < k by omega)
    simp only [laws_sameBytes.l0]
    rw [if_pos (by omega), if_pos (by omega), if_pos (by omega), if_pos trivial, w64 (by omega) (by omega)]
    exact ih k (i + 1) (by omega) (by omega) (by omega)
theorem sameFrame (a f c : Int) (b : List Int) (hl : b.length ≤ 1100) : ∀ k, 2000 ≤ k → laws_sameFrame.f k a f c b a f c b = some true := by
  intro k hk
  unfold laws_sameFrame.f
  rw [if_pos rfl, if_pos rfl, if_pos rfl]
  have : laws_sameBytes.f k b b = some true := by
    unfold laws_sameBytes.f
    rw [if_pos rfl]
    exact sameBytes_l b (by omega) b.length k 0 (by omega) (by omega) (by omega)
  exact bs this rfl
theorem drawPutFrame (l : List Int) (hl : l.length ≤ 1048576) : ∃ K a f c b, (∀ k, K ≤ k → spec_DrawPutFrame.f k l = some (a, f, c, b)) ∧ Bytes b ∧ b.length ≤ 1100 := by
  obtain ⟨K1, q, e1, hi⟩ := l1New l (by omega)
  obtain ⟨K2, a, f, c, b, i2, q2, e2, hok, hb, hbl, hi2⟩ := g_frame l 0 q hi
  obtain ⟨t, i3, q3, e3, ht0, ht1, _, hi3⟩ := l1Below l i2 q2 14 (by omega) hi2
  obtain ⟨a', i4, q4, e4, _, hi4⟩ := l1Int l i3 q3 [(-1), 256, 255] (by decide) hi3
  obtain ⟨f', i5, q5, e5, _, hi5⟩ := l1Int l i3 q3 [(-1), 256] (by decide) hi3
  obtain ⟨c', i6, q6, e6, _, hi6⟩ := l1Int l i3 q3 [(-1), 2147483648, 2147483647] (by decide) hi3
  obtain ⟨n, i7, q7, e7, hn0, hn1, _, hi7⟩ := l1Below l i3 q3 2 (by omega) hi3
  have hn := hn1 (by omega)
  have up : ∀ (x1 x2 x3 : Int) (x4 : List Int) (x5 x6 : Int), (∀ k, K2 ≤ k → spec_l6Any.f k l 0 q = some (x1, x2, x3, x4, x5, x6)) → ∀ k, K1 + K2 ≤ k → spec_DrawPutFrame.f k l = some (x1, x2, x3, x4) := by
    intro x1 x2 x3 x4 x5 x6 h k hk
    unfold spec_DrawPutFrame.f
    exact bs (e1 k (by omega)) (bs (h k (by omega)) rfl)
  by_cases c0 : t = 0
  · refine ⟨K1 + K2, a', f, c, b, up _ _ _ _ i4 q4 (fun k hk => ?_), hb, by omega⟩
    unfold spec_l6Any.f
    refine bs (e2 k hk) (bs e3 ?_)
    rw [if_pos c0]
    exact bs e4 rfl
  · by_cases c1 : t = 1
    · refine ⟨K1 + K2, a, f', c, b, up _ _ _ _ i5 q5 (fun k hk => ?_), hb, by omega⟩
      unfold spec_l6Any.f
      refine bs (e2 k hk) (bs e3 ?_)
      rw [if_neg c0, if_pos c1]
      exact bs e5 rfl
    · by_cases c2 : t = 2
      · refine ⟨K1 + K2, a, f, c', b, up _ _ _ _ i6 q6 (fun k hk => ?_), hb, by omega⟩
        unfold spec_l6Any.f
        refine bs (e2 k hk) (bs e3 ?_)
        rw [if_neg c0, if_neg c1, if_pos c2]
        exact bs e6 rfl
      · by_cases c3 : t = 3
        · refine ⟨K1 + K2, a, f, c, List.replicate (1000 + n).toNat 0, up _ _ _ _ i7 q7 (fun k hk => ?_), ?_, by rw [List.length_replicate]; omega⟩
          · unfold spec_l6Any.f
            refine bs (e2 k hk) (bs e3 ?_)
            rw [if_neg c0, if_neg c1, if_neg c2, if_pos c3]
            refine bs e7 ?_
            rw [w64 (by simp only; omega) (by simp only; omega), if_pos (by simp only; omega), if_pos (by simp only; omega)]
          · intro x hx
            rw [List.mem_replicate] at hx
            omega
        · refine ⟨K1 + K2, a, f, c, b, up _ _ _ _ i3 q3 (fun k hk => ?_), hb, by omega⟩
          unfold spec_l6Any.f
          refine bs (e2 k hk) (bs e3 ?_)
          rw [if_neg c0, if_neg c1, if_neg c2, if_neg c3]
theorem tooLong : ∃ K, ∀ k, K ≤ k → impl_GetFrame.f k [0, 4, 0, 0, 0, 0, 0, 0, 1] 0 = some (0, 0, 0, [], 0, 2) := by
  obtain ⟨K, h⟩ := impl_gf (l := [0, 4, 0, 0, 0, 0, 0, 0, 1]) (a := 0) (by decide) (by intro x hx; simp at hx; omega) (by omega)
  have g := gb_at [] [0, 4, 0] [0, 0, 0, 0, 0, 1] (by intro x hx; simp at hx; omega) (by decide)
  have e : gb [0, 4, 0, 0, 0, 0, 0, 0, 1] 0 3 = (1024, true) := by
    have e2 : val 0 [0, 4, 0] = 1024 := by decide
    rw [e2] at g
    exact g
  refine ⟨K, fun k hk => ?_⟩
  rw [h k hk]
  unfold gf
  rw [if_neg (by decide), e]
  rfl
theorem FnOneFrame : laws_FnOneFrame.Pure := by
  intro l _ hl2 hw
  have hbig : laws_big.f l = some (decide ((l.length : Int) > 1048576)) := rfl
  by_cases h : (l.length : Int) > 1048576
  · refine ⟨0, ?_⟩
    unfold laws_FnOneFrame.f
    refine bs hbig ?_
    rw [if_pos (decide_eq_true h)]
  obtain ⟨K1, a, f, c, b, hd, hb, hbl⟩ := drawPutFrame l (by omega)
  obtain ⟨K2, hlong⟩ := tooLong
  obtain ⟨r, hc1, hc2⟩ := frameCode_both a f c b
  by_cases ok : okF a f c b
  · have el := enc_length a f c b
    have eb := enc_bytes a f c b hb
    obtain ⟨K3, h3⟩ := impl_gf (l := [9, 9] ++ enc a f c b) (a := 2) (by simp only [List.length_append, el, List.length_cons, List.length_nil]; omega) (by
      intro x hx
      rcases List.mem_append.1 hx with hx | hx
      · simp at hx; omega
      · exact eb x hx) (by omega)
    have e := gf_ok ok [9, 9] [] (by decide)
    rw [List.append_nil] at e
    have e' : gf ([9, 9] ++ enc a f c b) 2 = (a, f, c, b, 2 + 9 + (b.length : Int), 0) := e
    rw [e'] at h3
    refine ⟨K1 + K2 + K3 + 2000 + 1, ?_⟩
    unfold laws_FnOneFrame.f
    refine bs hbig ?_
    rw [if_neg (by simpa using h)]
    refine bs (hd _ (by omega)) (bs (impl_put ok _ (by omega)) (bs (spec_frameOk a f c b) ?_))
    rw [if_pos (by simpa using ok)]
    refine bs rfl ?_
    rw [if_pos (by rw [el]; simp only [List.length_cons, List.length_nil]; omega)]
    refine bs (h3 _ (by omega)) (bs (hlong _ (by omega)) ?_)
    simp only
    rw [if_pos trivial, el, w64 (by omega) (by omega), if_pos (by omega)]
    refine bs (sameFrame a f c b hbl _ (by omega)) ?_
    rw [if_pos rfl, w64 (by omega) (by omega), if_pos (by omega), if_pos trivial]
    refine bs (hc2 _ (by omega)) (bs (hc1 _ (by omega)) ?_)
    rw [laws_FnOneFrame.j0]
    simp
  · have hc3 : ∀ k, 4 ≤ k → impl_FrameCode.f k a f c b = some 2 := by
      intro k hk
      obtain ⟨k, rfl⟩ := ix (show 0 < k by omega)
      unfold impl_FrameCode.f
      refine bs (impl_frameOk a f c b) ?_
      rw [if_neg (by simpa using ok), impl_FrameCode.j0, if_pos rfl]
    refine ⟨K1 + 12, ?_⟩
    unfold laws_FnOneFrame.f
    refine bs hbig ?_
    rw [if_neg (by simpa using h)]
    refine bs (hd _ (by omega)) (bs (impl_put_no ok _) (bs (spec_frameOk a f c b) ?_))
    rw [if_neg (by simpa using ok), if_pos (by rfl)]
    exact bs (hc3 _ (by omega)) rfl
end Go.Proofs.Ytlgfcpmihocheaa.Pure
