/- For every input: FnFrames answers true: drawn frames, written one after another, are read back, and of a cut a beginning of them. No condition. -/
import Derived.Test.YthamojhhiddgaaaLibUs
import Derived.Test.YthamojhhiddgaaaLibRF
import Derived.Test.YthamojhhiddgaaaLibDi
import Derived.Test.YthamojhhiddgaaaAx1
import Derived.Test.YthamojhhiddgaaaAx4
import Derived.Test.YthamojhhiddgaaaAx5
import Derived.Test.YthamojhhiddgaaaAx6
import Derived.Test.YthamojhhiddgaaaAx7
import Derived.Test.YthamojhhiddgaaaAx15
import Derived.Test.YthamojhhiddgaaaAx16
import Derived.Test.YthamojhhiddgaaaAx17
import Derived.Test.YthamojhhiddgaaaAx18
set_option linter.unusedVariables false
set_option linter.unusedSimpArgs false
namespace Go.Proofs.Ythamojhhiddgaaa.Pure
open Go.RowKit Go.Proofs.Ythamojhhiddgaaa.A Go.Proofs.YthamojhhiddgaaaW.PrintWords Go.Proofs.YthamojhhiddgaaaW.PrintLast Go.Proofs.YthamojhhiddgaaaW.PrintMore Go.Proofs.Ythamojhhiddgaaa.LibU Go.Proofs.Ythamojhhiddgaaa.LibD Go.Proofs.Ythamojhhiddgaaa.LibF0 Go.Proofs.Ythamojhhiddgaaa.LibG Go.Proofs.Ythamojhhiddgaaa.LibFR Go.Proofs.Ythamojhhiddgaaa.LibRF
/-! The draws -/
def Good (F : Nat → Option (Int × Int × Int × List Int × Int × Int)) (b : List Int) : Prop := ∃ K a f c l i' h', (∀ k, K ≤ k → F k = some (a, f, c, l, i', h')) ∧ okF a f c l ∧ Bytes l ∧ l.length ≤ 100 ∧ CI b i'
theorem good_up {F G : Nat → Option (Int × Int × Int × List Int × Int × Int)} {b : List Int} (h : Good F b) (e : ∀ k, G (k + 1) = F k) : Good G b := by
  obtain ⟨K, a, f, c, l, i', h', h1, h2⟩ := h
  refine ⟨K + 1, a, f, c, l, i', h', fun k hk => ?_, h2⟩
  obtain ⟨k, rfl⟩ := ix (show 0 < k by omega)
  rw [e]
  exact h1 k (by omega)
theorem g_j4 (b : List Int) (i h n a f c : Int) (t : Bool) (hi : CI b i) (hn : 0 ≤ n ∧ n ≤ 100) (ha : 0 ≤ a ∧ a ≤ 255) (hf : 0 ≤ f ∧ f ≤ 255) (hc : 0 ≤ c ∧ c ≤ 255) : Good (fun k => spec_l6Frame.j4 k n t b i h a f c) b := by
  refine good_up (F := fun k => if t = true then ((spec_l1Int.f b i h (([0, 0, 0, 0, 1] : List Int))).bind fun bt978 => ((spec_l1Bytes.f k b bt978.2.1 bt978.2.2 n).bind fun bt981 => (some (a, f, bt978.1, bt981.1, bt981.2.1, bt981.2.2)))) else ((spec_l1Bytes.f k b i h n).bind fun bt986 => (some (a, f, c, bt986.1, bt986.2.1, bt986.2.2)))) ?_ (fun k => rfl)
  by_cases ht : t = true
  · obtain ⟨s, i1, q1, e1, hs, hi1⟩ := l1Int b i h [0, 0, 0, 0, 1] (by decide) hi
    have hs' : s = 0 ∨ s = 1 := by simp at hs; omega
    obtain ⟨K, l, i2, q2, e2, hl, hlen, hi2⟩ := l1Bytes b i1 q1 n (by omega) hi1
    refine ⟨K, a, f, s, l, i2, q2, fun k hk => ?_, ⟨ha, hf, by omega, by omega⟩, hl, by omega, hi2⟩
    simp only
    rw [if_pos ht]
    exact bs e1 (bs (e2 k hk) rfl)
  · obtain ⟨K, l, i2, q2, e2, hl, hlen, hi2⟩ := l1Bytes b i h n (by omega) hi
    refine ⟨K, a, f, c, l, i2, q2, fun k hk => ?_, ⟨ha, hf, by omega, by omega⟩, hl, by omega, hi2⟩
    simp only
    rw [if_neg ht]
    exact bs (e2 k hk) rfl
theorem g_j3 (b : List Int) (i h n a f c : Int) (hi : CI b i) (hn : 0 ≤ n ∧ n ≤ 100) (ha : 0 ≤ a ∧ a ≤ 255) (hf : 0 ≤ f ∧ f ≤ 255) (hc : 0 ≤ c ∧ c ≤ 255) : Good (fun k => spec_l6Frame.j3 k n b i h a f c) b := by
  by_cases t : 6 ≤ a ∧ a ≤ 7
  · refine good_up (g_j4 b i h n a f c true hi hn ha hf hc) (fun k => ?_)
    simp only [spec_l6Frame.j3]
    refine bs (l1In a 6 7) ?_
    rw [if_pos (by simpa using t)]
  · refine good_up (g_j4 b i h n a f c (a == 4) hi hn ha hf hc) (fun k => ?_)
    simp only [spec_l6Frame.j3]
    refine bs (l1In a 6 7) ?_
    rw [if_neg (by simpa using t)]
theorem g_j2 (b : List Int) (i h n a f c : Int) (hi : CI b i) (hn : 0 ≤ n ∧ n ≤ 90) (ha : 0 ≤ a ∧ a ≤ 255) (hf : 0 ≤ f ∧ f ≤ 255) (hc : 0 ≤ c ∧ c ≤ 255) : Good (fun k => spec_l6Frame.j2 k n b i h a f c) b := by
  obtain ⟨o, i1, q1, e1, _, _, _, hi1⟩ := l1Below b i h 8 (by omega) hi
  have e2 : spec_l1Once.f b i h 8 = some (o == 0, i1, q1) := by
    unfold spec_l1Once.f
    exact bs e1 rfl
  by_cases t : (o == 0) = true
  · refine good_up (g_j3 b i1 q1 (n + 1) a f c hi1 (by omega) ha hf hc) (fun k => ?_)
    simp only [spec_l6Frame.j2]
    refine bs e2 ?_
    rw [if_pos t, w64 (by omega) (by omega)]
  · refine good_up (g_j3 b i1 q1 n a f c hi1 (by omega) ha hf hc) (fun k => ?_)
    simp only [spec_l6Frame.j2]
    refine bs e2 ?_
    rw [if_neg t]
theorem g_j1 (b : List Int) (i h n s a f c : Int) (t : Bool) (hi : CI b i) (hn : 0 ≤ n ∧ n ≤ 90) (ha : 0 ≤ a ∧ a ≤ 255) (hf : 0 ≤ f ∧ f ≤ 255) (hc : 0 ≤ c ∧ c ≤ 255) : Good (fun k => spec_l6Frame.j1 k n s t b i h a f c) b := by
  by_cases ht : t = true
  · refine good_up (g_j2 b i h 8 a f c hi (by omega) ha hf hc) (fun k => ?_)
    simp only [spec_l6Frame.j1]
    rw [if_pos ht]
  · by_cases h4 : s = 4
    · obtain ⟨o, i1, q1, e1, ho0, ho1, _, hi1⟩ := l1Below b i h 3 (by omega) hi
      have ho := ho1 (by omega)
      by_cases hb : Go.bits .and .i64 f 1 = 1
      · refine good_up (g_j2 b i1 q1 0 a f c hi1 (by omega) ha hf hc) (fun k => ?_)
        simp only [spec_l6Frame.j1]
        rw [if_neg ht, if_pos h4]
        refine bs e1 ?_
        rw [if_pos hb]
      · refine good_up (g_j2 b i1 q1 (6 * o) a f c hi1 (by omega) ha hf hc) (fun k => ?_)
        simp only [spec_l6Frame.j1]
        rw [if_neg ht, if_pos h4]
        refine bs e1 ?_
        rw [if_neg hb, w64 (by omega) (by omega)]
    · refine good_up (g_j2 b i h n a f c hi (by omega) ha hf hc) (fun k => ?_)
      simp only [spec_l6Frame.j1]
      rw [if_neg ht, if_neg h4]
theorem g_j0 (b : List Int) (i h n s a f c : Int) (t : Bool) (hi : CI b i) (hn : 0 ≤ n ∧ n ≤ 90) (ha : 0 ≤ a ∧ a ≤ 255) (hf : 0 ≤ f ∧ f ≤ 255) (hc : 0 ≤ c ∧ c ≤ 255) : Good (fun k => spec_l6Frame.j0 k n s t b i h a f c) b := by
  by_cases ht : t = true
  · refine good_up (g_j2 b i h 4 a f c hi (by omega) ha hf hc) (fun k => ?_)
    simp only [spec_l6Frame.j0]
    rw [if_pos ht]
  · by_cases h6 : s = 6
    · refine good_up (g_j1 b i h n s a f c (s == 6) hi (by omega) ha hf hc) (fun k => ?_)
      simp only [spec_l6Frame.j0]
      rw [if_neg ht, if_pos h6]
    · refine good_up (g_j1 b i h n s a f c (s == 7) hi (by omega) ha hf hc) (fun k => ?_)
      simp only [spec_l6Frame.j0]
      rw [if_neg ht, if_neg h6]
theorem g_frame (b : List Int) (i h : Int) (hi : CI b i) : Good (fun k => spec_l6Frame.f k b i h) b := by
  obtain ⟨a, i1, q1, e1, ha0, ha1, _, hi1⟩ := l1Below b i h 11 (by omega) hi
  have ha := ha1 (by omega)
  obtain ⟨f, i2, q2, e2, hf, hi2⟩ := l1Int b i1 q1 [0, 1, 4, 5, 8, 12, 32, 44] (by decide) hi1
  have hf' : f = 0 ∨ f = 1 ∨ f = 4 ∨ f = 5 ∨ f = 8 ∨ f = 12 ∨ f = 32 ∨ f = 44 := by simpa using hf
  obtain ⟨c, i3, q3, e3, hc, hi3⟩ := l1Int b i2 q2 [1, 1, 3, 0, 5] (by decide) hi2
  have hc' : c = 1 ∨ c = 3 ∨ c = 0 ∨ c = 5 := by simp at hc; omega
  obtain ⟨n, i4, q4, e4, hn, hi4⟩ := l1Int b i3 q3 [0, 1, 4, 5, 6, 8, 12] (by decide) hi3
  have hn' : n = 0 ∨ n = 1 ∨ n = 4 ∨ n = 5 ∨ n = 6 ∨ n = 8 ∨ n = 12 := by simpa using hn
  have ev : ∀ k r, (if a = 2 then (spec_l6Frame.j2 k 5 b i4 q4 a f c) else (if a = 3 then (spec_l6Frame.j0 k n a (a == 3) b i4 q4 a f c) else (spec_l6Frame.j0 k n a (a == 8) b i4 q4 a f c))) = r → spec_l6Frame.f k b i h = r := by
    intro k r hr
    unfold spec_l6Frame.f
    exact bs e1 (bs e2 (bs e3 (bs e4 hr)))
  by_cases h2 : a = 2
  · obtain ⟨K, x1, x2, x3, x4, x5, x6, g1, g2⟩ := g_j2 b i4 q4 5 a f c hi4 (by omega) (by omega) (by omega) (by omega)
    exact ⟨K, x1, x2, x3, x4, x5, x6, fun k hk => ev k _ (by rw [if_pos h2]; exact g1 k hk), g2⟩
  · by_cases h3 : a = 3
    · obtain ⟨K, x1, x2, x3, x4, x5, x6, g1, g2⟩ := g_j0 b i4 q4 n a a f c (a == 3) hi4 (by omega) (by omega) (by omega) (by omega)
      exact ⟨K, x1, x2, x3, x4, x5, x6, fun k hk => ev k _ (by rw [if_neg h2, if_pos h3]; exact g1 k hk), g2⟩
    · obtain ⟨K, x1, x2, x3, x4, x5, x6, g1, g2⟩ := g_j0 b i4 q4 n a a f c (a == 8) hi4 (by omega) (by omega) (by omega) (by omega)
      exact ⟨K, x1, x2, x3, x4, x5, x6, fun k hk => ev k _ (by rw [if_neg h2, if_neg h3]; exact g1 k hk), g2⟩
theorem drawFrames_l (b : List Int) (d : Nat) : ∀ (x : List S28) (i h : Int), CI b i → d ≤ 100 → x.length + d ≤ 100 → (∀ f ∈ x, OKf f) → ∃ K r, (∀ k, K ≤ k → spec_DrawFrames.l0 k x (d : Int) b i h = some r) ∧ r.length ≤ 100 ∧ ∀ f ∈ r, OKf f := by
  induction d with
  | zero =>
    intro x i h hi hd hx ho
    refine ⟨1, x, fun k hk => ?_, by omega, ho⟩
    obtain ⟨k, rfl⟩ := ix (show 0 < k by omega)
    simp only [spec_DrawFrames.l0]
    rw [if_neg (by omega)]
  | succ d ih =>
    intro x i h hi hd hx ho
    obtain ⟨K1, a, f, c, l, i1, q1, e1, h1, h2, h3, hi1⟩ := g_frame b i h hi
    obtain ⟨K2, r, e2, h4, h5⟩ := ih (x ++ [⟨a, f, c, l⟩]) i1 q1 hi1 (by omega) (by simp; omega) (by
      intro g hg
      rcases List.mem_append.1 hg with hg | hg
      · exact ho g hg
      · rw [List.mem_singleton] at hg
        subst hg
        exact ⟨h1, h2⟩)
    refine ⟨K1 + K2 + 1, r, fun k hk => ?_, h4, h5⟩
    obtain ⟨k, rfl⟩ := ix (show 0 < k by omega)
    simp only [spec_DrawFrames.l0]
    rw [if_pos (by omega)]
    refine bs (e1 k (by omega)) ?_
    rw [if_pos (by omega), w64 (by omega) (by omega), show (((d + 1 : Nat) : Int) - 1) = (d : Int) by omega]
    exact e2 k (by omega)
theorem drawFrames (l : List Int) (hl : l.length ≤ 1048576) : ∃ K r, (∀ k, K ≤ k → spec_DrawFrames.f k l = some r) ∧ r.length ≤ 100 ∧ ∀ f ∈ r, OKf f := by
  obtain ⟨K1, q, e1, hi⟩ := l1New l (by omega)
  obtain ⟨n, i2, q2, e2, hn0, hn1, _, hi2⟩ := l1Below l 0 q 6 (by omega) hi
  have hn := hn1 (by omega)
  obtain ⟨d, rfl⟩ := Int.eq_ofNat_of_zero_le hn0
  obtain ⟨K2, r, e3, h4, h5⟩ := drawFrames_l l d [] i2 q2 hi2 (by omega) (by simp; omega) (by simp)
  refine ⟨K1 + K2, r, fun k hk => ?_, h4, h5⟩
  unfold spec_DrawFrames.f
  exact bs (e1 k (by omega)) (bs e2 (e3 k (by omega)))
/-! The law's own words -/
theorem sameBytes_l (l : List Int) (hl : l.length ≤ 9223372036854775806) (d : Nat) : ∀ (k : Nat) (i : Nat), i ≤ l.length → l.length - i = d → d < k → laws_sameBytes.l0 k l l (i : Int) = some true := by
  induction d with
  | zero =>
    intro k i hi hd hk
    obtain ⟨k, rfl⟩ := ix (show 0 < k by omega)
    simp only [laws_sameBytes.l0]
    rw [if_neg (by omega)]
  | succ d ih =>
    intro k i hi hd hk
    obtain ⟨k, rfl⟩ := ix (show 0 < k by omega)
    simp only [laws_sameBytes.l0]
    rw [if_pos (by omega), if_pos (by omega), if_pos (by omega), if_pos trivial, w64 (by omega) (by omega)]
    exact ih k (i + 1) (by omega) (by omega) (by omega)
theorem sameFrame (f : S28) (h : OKf f) : ∀ k, 2000 ≤ k → laws_sameFrame.f k f.f0 f.f1 f.f2 f.f3 f.f0 f.f1 f.f2 f.f3 = some true := by
  intro k hk
  have hl : f.f3.length ≤ 1000 := h.1.2.2.2
  unfold laws_sameFrame.f
  rw [if_pos rfl, if_pos rfl, if_pos rfl]
  have : laws_sameBytes.f k f.f3 f.f3 = some true := by
    unfold laws_sameBytes.f
    rw [if_pos rfl]
    exact sameBytes_l f.f3 (by omega) f.f3.length k 0 (by omega) (by omega) (by omega)
  exact bs this rfl
theorem rdF (l : List S28) (i : Nat) (h : i < l.length) : rd_T28 l (i : Int) = l[i] := by
  simp [rd_T28, List.getD_eq_getElem?_getD, List.getElem?_eq_getElem h]
/-- The last loop: every frame is right, and read back where it was read. -/
theorem last_loop (fs : List S28) (m : Nat) (hok : ∀ f ∈ fs, OKf f) (hl : fs.length ≤ 100) (d : Nat) : ∀ (i : Nat), i ≤ fs.length → fs.length - i = d → ∀ k, 2 * d + 3000 < k → laws_FnFrames.l1 k fs fs (fs.take m) (i : Int) = some true := by
  induction d with
  | zero =>
    intro i hi hd k hk
    obtain ⟨k, rfl⟩ := ix (show 0 < k by omega)
    rw [laws_FnFrames.l1, if_neg (by omega)]
  | succ d ih =>
    intro i hi hd k hk
    obtain ⟨k, rfl⟩ : ∃ q, k = q + 1 + 1 := ⟨k - 2, by omega⟩
    have hlt : i < fs.length := by omega
    have ho := hok fs[i] (List.getElem_mem hlt)
    have hnext := ih (i + 1) (by omega) (by omega) k (by omega)
    have hj : laws_FnFrames.j5 (k + 1) fs fs (fs.take m) (i : Int) false = some true := by
      rw [laws_FnFrames.j5, if_neg (by decide), w64 (by omega) (by omega)]
      exact hnext
    rw [laws_FnFrames.l1, if_pos (by omega), if_pos (by omega), rdF fs i hlt]
    refine bs (impl_frameOk _ _ _ _) ?_
    rw [if_pos (by simpa using ho.1), if_pos (by omega)]
    refine bs (sameFrame _ ho _ (by omega)) ?_
    rw [if_pos rfl]
    by_cases c : i < (fs.take m).length
    · rw [if_pos (by omega), rdF (fs.take m) i c]
      have e : (fs.take m)[i] = fs[i] := by simp
      rw [e]
      exact bs (sameFrame _ ho _ (by omega)) hj
    · rw [if_neg (by omega)]
      exact hj
theorem put_loop (l : List Int) (fs : List S28) (hok : ∀ f ∈ fs, OKf f) (hl : fs.length ≤ 100) (K0 : Nat) (r : Bool) (he : ∀ k, K0 ≤ k → laws_FnFrames.l0 k l fs (flat fs) (fs.length : Int) = some r) (d : Nat) : ∀ (i : Nat), i ≤ fs.length → fs.length - i = d → ∀ k, K0 + 20 + d ≤ k → laws_FnFrames.l0 k l fs (flat (fs.take i)) (i : Int) = some r := by
  induction d with
  | zero =>
    intro i hi hd k hk
    have e : i = fs.length := by omega
    subst e
    rw [List.take_length]
    exact he k (by omega)
  | succ d ih =>
    intro i hi hd k hk
    obtain ⟨k, rfl⟩ := ix (show 0 < k by omega)
    have hlt : i < fs.length := by omega
    have ho := hok fs[i] (List.getElem_mem hlt)
    have e : flat (fs.take (i + 1)) = flat (fs.take i) ++ encF fs[i] := by
      unfold flat
      rw [List.take_succ_eq_append_getElem hlt, List.flatMap_append]
      simp only [List.flatMap_cons, List.flatMap_nil, List.append_nil]
    have h1 := flat_length (fs.take i) (fun f hf => hok f (List.mem_of_mem_take hf))
    have h2 : (fs.take i).length ≤ 100 := by rw [List.length_take]; omega
    have h3 : (encF fs[i]).length = 9 + fs[i].f3.length := enc_length ..
    have h4 : fs[i].f3.length ≤ 1000 := ho.1.2.2.2
    rw [laws_FnFrames.l0, if_pos (by omega), if_pos (by omega), rdF fs i hlt]
    refine bs (impl_put ho.1 k (by omega)) ?_
    have h3' : (enc fs[i].f0 fs[i].f1 fs[i].f2 fs[i].f3).length = 9 + fs[i].f3.length := enc_length ..
    rw [if_pos (by omega), w64 (by omega) (by omega)]
    have := ih (i + 1) (by omega) (by omega) k (by omega)
    rw [e] at this
    exact this
theorem atB (l : List Int) (i : Nat) (hi : i < 10) (hb : Bytes l) (hl : l.length ≤ 1048576) : ∃ x, laws_at.f l (i : Int) = some x ∧ 0 ≤ x ∧ x ≤ 255 := by
  unfold laws_at.f
  by_cases c : i < l.length
  · have e : rd l (i : Int) = l[i] := by
      rw [rd_nat, List.getD_eq_getElem?_getD, List.getElem?_eq_getElem c]; rfl
    have := hb l[i] (List.getElem_mem c)
    rw [if_pos (by omega), if_pos (by omega), e, w64 (by omega) (by omega)]
    exact ⟨_, rfl, by omega, by omega⟩
  · rw [if_neg (by omega), w64 (x := (i : Int) * 31) (by omega) (by omega), w64 (x := (l.length : Int) * 7) (by omega) (by omega), w64 (by omega) (by omega), Int.tmod_eq_emod_of_nonneg (by omega)]
    exact ⟨_, rfl, by omega, by omega⟩
theorem FnFrames : laws_FnFrames.Pure := by
  intro l _ hl2 hw
  have hbig : laws_big.f l = some (decide ((l.length : Int) > 1048576)) := rfl
  by_cases h : (l.length : Int) > 1048576
  · refine ⟨0, ?_⟩
    unfold laws_FnFrames.f
    refine bs hbig ?_
    rw [if_pos (decide_eq_true h)]
  have hlb : Bytes l := fun x hx => wf8 (hw x hx)
  obtain ⟨K1, fs, hd, hfl, hok⟩ := drawFrames l (by omega)
  have hflat := flat_length fs hok
  have hpos := flat_pos fs
  obtain ⟨K2, hall⟩ := rf_all fs [] [] hok (by intro x hx; simp at hx) (by simp; omega) (by simp; omega)
  simp only [List.nil_append, List.length_nil] at hall
  obtain ⟨x2, ea2, hx2, hx2'⟩ := atB l 2 (by omega) hlb (by omega)
  obtain ⟨x3, ea3, hx3, hx3'⟩ := atB l 3 (by omega) hlb (by omega)
  -- what a cut leaves
  have hcut : ∀ r : Nat, (r < (flat fs).length ∨ (flat fs).length = 0 ∧ r = 0) → ∃ K m p, (0 < (flat fs).length → m < fs.length) ∧ p ≤ r ∧ ∀ k, K ≤ k → impl_ReadFrames.f k ((flat fs).take r) = some (fs.take m, (p : Int), 1) := by
    intro r hr
    by_cases c : r < (flat fs).length
    · obtain ⟨K, m, p, hm, hp, hK⟩ := rf_cut fs [] [] r hok (by intro x hx; simp at hx) (by simp; omega) (by simp; omega) c
      simp only [List.nil_append, List.length_nil, Nat.zero_add] at hK hp
      exact ⟨K, m, p, fun _ => hm, hp, fun k hk => hK k hk⟩
    · have h0 : (flat fs).length = 0 := by omega
      have hfs0 : fs = [] := List.length_eq_zero_iff.1 (by omega)
      refine ⟨K2, 0, 0, by omega, by omega, fun k hk => ?_⟩
      have e := hall k hk
      rw [hfs0] at e ⊢
      simpa [flat, impl_ReadFrames.f] using e
  -- behind the cut
  have hj2 : ∀ r : Nat, (r < (flat fs).length ∨ (flat fs).length = 0 ∧ r = 0) → ∃ K, ∀ k, K ≤ k → laws_FnFrames.j2 k fs (flat fs) fs (r : Int) = some true := by
    intro r hr
    obtain ⟨K, m, p, hm, hp, hK⟩ := hcut r hr
    refine ⟨K + 4000, fun k hk => ?_⟩
    obtain ⟨k, rfl⟩ : ∃ q, k = q + 1 + 1 := ⟨k - 2, by omega⟩
    have hend := last_loop fs m hok hfl fs.length 0 (by omega) (by omega) k (by omega)
    have hj3 : laws_FnFrames.j3 (k + 1) fs fs (fs.take m) false = some true := by
      rw [laws_FnFrames.j3, if_neg (by decide)]
      exact hend
    rw [laws_FnFrames.j2, if_pos (by omega), if_pos (by omega), Int.toNat_natCast]
    refine bs (hK _ (by omega)) ?_
    have hmt : (fs.take m).length ≤ fs.length := by rw [List.length_take]; omega
    simp only
    rw [if_pos trivial, if_neg (by omega), if_neg (by omega)]
    by_cases c : ((flat fs).length : Int) > 0
    · have hm' := hm (by omega)
      have : (((fs.take m).length : Int) == (fs.length : Int)) = false := by
        rw [beq_eq_false_iff_ne, List.length_take]
        omega
      rw [if_pos c, this]
      exact hj3
    · rw [if_neg c]
      exact hj3
  -- the cut's place
  have hj1 : ∃ K, ∀ k, K ≤ k → laws_FnFrames.j1 k l fs (flat fs) fs false = some true := by
    by_cases c : ((flat fs).length : Int) > 0
    · have hv : 0 ≤ Int.tmod (x2 * 256 + x3) ((flat fs).length : Int) ∧ Int.tmod (x2 * 256 + x3) ((flat fs).length : Int) < ((flat fs).length : Int) := by
        rw [Int.tmod_eq_emod_of_nonneg (by omega)]
        exact ⟨Int.emod_nonneg _ (by omega), Int.emod_lt_of_pos _ c⟩
      obtain ⟨r, hr⟩ := Int.eq_ofNat_of_zero_le hv.1
      obtain ⟨K, hK⟩ := hj2 r (by omega)
      refine ⟨K + 1, fun k hk => ?_⟩
      obtain ⟨k, rfl⟩ := ix (show 0 < k by omega)
      rw [laws_FnFrames.j1, if_neg (by decide), if_pos c]
      refine bs ea2 (bs ea3 ?_)
      rw [if_neg (by omega), w64 (x := x2 * 256) (by omega) (by omega), w64 (by omega) (by omega), hr]
      exact hK k (by omega)
    · obtain ⟨K, hK⟩ := hj2 0 (by omega)
      refine ⟨K + 1, fun k hk => ?_⟩
      obtain ⟨k, rfl⟩ := ix (show 0 < k by omega)
      rw [laws_FnFrames.j1, if_neg (by decide), if_neg c]
      exact hK k (by omega)
  obtain ⟨K3, h3⟩ := hj1
  have hend : ∀ k, K2 + K3 + 1 ≤ k → laws_FnFrames.l0 k l fs (flat fs) (fs.length : Int) = some true := by
    intro k hk
    obtain ⟨k, rfl⟩ := ix (show 0 < k by omega)
    rw [laws_FnFrames.l0, if_neg (by omega)]
    refine bs (hall k (by omega)) ?_
    simp only
    rw [if_pos trivial, if_pos trivial, show (((fs.length : Int)) != ((fs.length : Int))) = false by simp]
    exact h3 k (by omega)
  refine ⟨K1 + (K2 + K3 + 1) + 20 + fs.length, ?_⟩
  unfold laws_FnFrames.f
  refine bs hbig ?_
  rw [if_neg (by simpa using h)]
  refine bs (hd _ (by omega)) ?_
  exact put_loop l fs hok hfl (K2 + K3 + 1) true hend fs.length 0 (by omega) (by omega) _ (by omega)
end Go.Proofs.Ythamojhhiddgaaa.Pure
