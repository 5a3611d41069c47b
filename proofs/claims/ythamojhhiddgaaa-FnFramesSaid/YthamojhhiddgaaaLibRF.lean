/- Frames after frames: what ReadFrames reads back, of all the bytes and of a cut. Condition: each theorem's own bounds. -/
import Derived.Test.YthamojhhiddgaaaLibFR
import Derived.Test.YthamojhhiddgaaaAx15
set_option linter.unusedVariables false
set_option linter.unusedSimpArgs false
namespace Go.Proofs.Ythamojhhiddgaaa.LibRF
open Go.RowKit Go.Proofs.Ythamojhhiddgaaa.A Go.Proofs.YthamojhhiddgaaaW.PrintWords Go.Proofs.YthamojhhiddgaaaW.PrintLast Go.Proofs.YthamojhhiddgaaaW.PrintMore Go.Proofs.Ythamojhhiddgaaa.LibU Go.Proofs.Ythamojhhiddgaaa.LibF0 Go.Proofs.Ythamojhhiddgaaa.LibB Go.Proofs.Ythamojhhiddgaaa.LibG Go.Proofs.Ythamojhhiddgaaa.LibGF Go.Proofs.Ythamojhhiddgaaa.LibFR
def encF (f : S28) : List Int := enc f.f0 f.f1 f.f2 f.f3
def flat (fs : List S28) : List Int := fs.flatMap encF
def OKf (f : S28) : Prop := okF f.f0 f.f1 f.f2 f.f3 ∧ BytesL f.f3
theorem flat_cons (f : S28) (fs : List S28) : flat (f :: fs) = encF f ++ flat fs := by simp [flat]
theorem flat_bytes (fs : List S28) (h : ∀ f ∈ fs, OKf f) : BytesL (flat fs) := by
  intro x hx
  simp only [flat, List.mem_flatMap] at hx
  obtain ⟨f, hf, hx⟩ := hx
  exact enc_bytes _ _ _ _ (h f hf).2 x hx
theorem flat_length (fs : List S28) (h : ∀ f ∈ fs, OKf f) : (flat fs).length ≤ 1009 * fs.length := by
  induction fs with
  | nil => simp [flat]
  | cons f fs ih =>
    have h1 := ih (fun g hg => h g (List.mem_cons_of_mem _ hg))
    have h2 := (h f (List.mem_cons_self ..)).1.2.2.2
    rw [flat_cons, List.length_append, encF, enc_length, List.length_cons]
    omega
theorem flat_pos (fs : List S28) : fs.length ≤ (flat fs).length := by
  induction fs with
  | nil => simp [flat]
  | cons f fs ih => rw [flat_cons, List.length_append, encF, enc_length, List.length_cons]; omega
theorem bytes_app {a b : List Int} (ha : BytesL a) (hb : BytesL b) : BytesL (a ++ b) := by
  intro x hx
  rcases List.mem_append.1 hx with h | h
  · exact ha x h
  · exact hb x h
/-- One round that reads a frame. -/
theorem round (f : S28) (hf : OKf f) (pre post : List Int) (x : List S28) (hp : BytesL pre) (hq : BytesL post) (hl : pre.length + 2000 + post.length ≤ 1000000000) (hx : x.length ≤ 1000000) : ∃ K, ∀ k, K ≤ k → impl_ReadFrames.l0 (k + 1) (pre ++ (encF f ++ post)) x (pre.length : Int) = impl_ReadFrames.l0 k (pre ++ (encF f ++ post)) (x ++ [f]) ((pre ++ encF f).length : Int) := by
  have hb : f.f3.length ≤ 1000 := hf.1.2.2.2
  have el : (encF f).length = 9 + f.f3.length := enc_length ..
  obtain ⟨K, h⟩ := impl_gf (l := pre ++ (encF f ++ post)) (a := (pre.length : Int)) (by simp only [List.length_append, el]; omega) (bytes_app hp (bytes_app (enc_bytes _ _ _ _ hf.2) hq)) (by omega)
  have e := gf_ok hf.1 pre post (by omega)
  refine ⟨K, fun k hk => ?_⟩
  simp only [impl_ReadFrames.l0]
  refine bs (h k hk) ?_
  rw [show pre ++ (encF f ++ post) = pre ++ (enc f.f0 f.f1 f.f2 f.f3 ++ post) from rfl, e]
  simp only
  rw [if_pos trivial, if_pos (by omega)]
  rw [show ((pre ++ encF f).length : Int) = (pre.length : Int) + 9 + f.f3.length by rw [List.length_append, el]; omega]
theorem stop (l pre : List Int) (x : List S28) (hl : l.length ≤ 1000000000) (hb : BytesL l) (hp : pre.length ≤ 1000000000) (he : gf l (pre.length : Int) = (0, 0, 0, [], (pre.length : Int), 1)) : ∃ K, ∀ k, K ≤ k → impl_ReadFrames.l0 k l x (pre.length : Int) = some (x, (pre.length : Int), 1) := by
  obtain ⟨K, h⟩ := impl_gf (l := l) (a := (pre.length : Int)) (by omega) hb (by omega)
  refine ⟨K + 1, fun k hk => ?_⟩
  obtain ⟨k, rfl⟩ := ix (show 0 < k by omega)
  simp only [impl_ReadFrames.l0]
  refine bs (h k (by omega)) ?_
  rw [he]
  simp only
  rw [if_neg (by omega)]
theorem rf_all (fs : List S28) : ∀ (pre : List Int) (x : List S28), (∀ f ∈ fs, OKf f) → BytesL pre → pre.length + (flat fs).length ≤ 900000000 → x.length + fs.length ≤ 1000000 → ∃ K, ∀ k, K ≤ k → impl_ReadFrames.l0 k (pre ++ flat fs) x (pre.length : Int) = some (x ++ fs, ((pre ++ flat fs).length : Int), 1) := by
  induction fs with
  | nil =>
    intro pre x _ hp hl hx
    have e : pre ++ flat [] = pre ++ [] := rfl
    obtain ⟨K, h⟩ := stop (pre ++ []) pre x (by simp; omega) (by simpa using hp) (by omega) (gf_end pre [] (by simp))
    refine ⟨K, fun k hk => ?_⟩
    rw [e, h k hk]
    simp
  | cons f fs ih =>
    intro pre x h hp hl hx
    rw [flat_cons] at hl ⊢
    have hf := h f (List.mem_cons_self ..)
    simp only [List.length_append, List.length_cons] at hl hx
    obtain ⟨K1, h1⟩ := round f hf pre (flat fs) x hp (flat_bytes fs (fun g hg => h g (List.mem_cons_of_mem _ hg))) (by omega) (by omega)
    obtain ⟨K2, h2⟩ := ih (pre ++ encF f) (x ++ [f]) (fun g hg => h g (List.mem_cons_of_mem _ hg)) (bytes_app hp (enc_bytes _ _ _ _ hf.2)) (by simp only [List.length_append]; omega) (by simp; omega)
    refine ⟨K1 + K2 + 1, fun k hk => ?_⟩
    obtain ⟨k, rfl⟩ := ix (show 0 < k by omega)
    rw [h1 k (by omega)]
    have := h2 k (by omega)
    simp only [List.append_assoc, List.singleton_append] at this ⊢
    exact this
theorem rf_cut (fs : List S28) : ∀ (pre : List Int) (x : List S28) (r : Nat), (∀ f ∈ fs, OKf f) → BytesL pre → pre.length + (flat fs).length ≤ 900000000 → x.length + fs.length ≤ 1000000 → r < (flat fs).length →
    ∃ K m p, m < fs.length ∧ p ≤ pre.length + r ∧ ∀ k, K ≤ k → impl_ReadFrames.l0 k (pre ++ (flat fs).take r) x (pre.length : Int) = some (x ++ fs.take m, (p : Int), 1) := by
  induction fs with
  | nil => intro pre x r _ _ _ _ hr; simp [flat] at hr
  | cons f fs ih =>
    intro pre x r h hp hl hx hr
    rw [flat_cons] at hl hr ⊢
    have hf := h f (List.mem_cons_self ..)
    have hfs : ∀ g ∈ fs, OKf g := fun g hg => h g (List.mem_cons_of_mem _ hg)
    have el : (encF f).length = 9 + f.f3.length := enc_length ..
    simp only [List.length_append, List.length_cons] at hl hx hr
    by_cases c : r < 9 + f.f3.length
    · have hb : BytesL (pre ++ (encF f ++ flat fs).take r) := bytes_app hp (fun z hz => bytes_app (enc_bytes _ _ _ _ hf.2) (flat_bytes fs hfs) z (List.mem_of_mem_take hz))
      obtain ⟨K, hK⟩ := stop (pre ++ (encF f ++ flat fs).take r) pre x (by simp only [List.length_append, List.length_take]; omega) hb (by omega) (gf_short hf.1 pre (flat fs) r c)
      refine ⟨K, 0, pre.length, by simp, by omega, fun k hk => ?_⟩
      rw [hK k hk]
      simp
    · have e : (encF f ++ flat fs).take r = encF f ++ (flat fs).take (r - (9 + f.f3.length)) := by
        rw [List.take_append, el, List.take_of_length_le (by rw [el]; omega)]
      rw [e]
      have hq : BytesL ((flat fs).take (r - (9 + f.f3.length))) := fun z hz => flat_bytes fs hfs z (List.mem_of_mem_take hz)
      obtain ⟨K1, h1⟩ := round f hf pre ((flat fs).take (r - (9 + f.f3.length))) x hp hq (by rw [List.length_take]; omega) (by omega)
      obtain ⟨K2, m, p, hm, hpp, h2⟩ := ih (pre ++ encF f) (x ++ [f]) (r - (9 + f.f3.length)) hfs (bytes_app hp (enc_bytes _ _ _ _ hf.2)) (by simp only [List.length_append]; omega) (by simp; omega) (by omega)
      refine ⟨K1 + K2 + 1, m + 1, p, by simp; omega, by simp only [List.length_append, el] at hpp; omega, fun k hk => ?_⟩
      obtain ⟨k, rfl⟩ := ix (show 0 < k by omega)
      rw [h1 k (by omega)]
      have := h2 k (by omega)
      simp only [List.append_assoc, List.singleton_append, List.take_succ_cons] at this ⊢
      exact this
end Go.Proofs.Ythamojhhiddgaaa.LibRF
