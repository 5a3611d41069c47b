/- Rows of frames: what the law writes into them and that it is held; a row of frames is itself. Condition: each theorem's own bounds. -/
import Derived.Test.YtlgfcpmihocheaaLibU
import Derived.Test.YtlgfcpmihocheaaAx6
import Derived.Test.YtlgfcpmihocheaaAx7
import Derived.Test.YtlgfcpmihocheaaAx8
import Derived.Test.YtlgfcpmihocheaaAx9
import Derived.Test.YtlgfcpmihocheaaAx10
import Derived.Test.YtlgfcpmihocheaaAx11
import Derived.Test.YtlgfcpmihocheaaAx12
set_option linter.unusedVariables false
set_option linter.unusedSimpArgs false
namespace Go.Proofs.Ytlgfcpmihocheaa.LibFk
open Go.RowKit Go.Proofs.Ytlgfcpmihocheaa.A Go.Proofs.YtlgfcpmihocheaaW.PrintWords Go.Proofs.YtlgfcpmihocheaaW.PrintLast Go.Proofs.YtlgfcpmihocheaaW.PrintMore Go.Proofs.Ytlgfcpmihocheaa.LibU
def mkB : List Int → Int → List Int
  | [], _ => []
  | _ :: l, v => (v % 256) :: mkB l (v + 1)
theorem mkB_len : ∀ (l : List Int) (v : Int), (mkB l v).length = l.length
  | [], _ => rfl
  | _ :: l, v => by simp only [mkB, List.length_cons, mkB_len l]
theorem set_mid {α : Type} (p : List α) (a b : α) (r : List α) : (p ++ a :: r).set p.length b = p ++ b :: r := by simp
theorem snoc_mid {α : Type} (p : List α) (b : α) (r : List α) : p ++ b :: r = (p ++ [b]) ++ r := by simp
theorem snoc_len {α : Type} (p : List α) (b : α) : (p ++ [b]).length = p.length + 1 := by simp
theorem markB (r : List Int) : ∀ (p : List Int) (v : Int) (k : Nat), 0 ≤ v → v + r.length ≤ 1000000000000 → p.length + r.length ≤ 1000000000000 → r.length < k →
    laws_markByteS.l0 k (p ++ r) v (p.length : Int) = some (v + r.length, p ++ mkB r v) := by
  induction r with
  | nil =>
    intro p v k hv h1 h2 hk
    obtain ⟨k, rfl⟩ := ix (show 0 < k by omega)
    rw [laws_markByteS.l0, if_neg (by simp)]
    simp [mkB]
  | cons a r ih =>
    intro p v k hv h1 h2 hk
    simp only [List.length_cons] at h1 h2 hk
    obtain ⟨k, rfl⟩ := ix (show 0 < k by omega)
    rw [laws_markByteS.l0, if_pos (by simp only [List.length_append, List.length_cons]; omega), if_pos (by omega), Int.toNat_natCast, set_mid, w64 (x := v + 1) (by omega) (by omega), w64 (x := (p.length : Int) + 1) (by omega) (by omega), snoc_mid]
    have h := ih (p ++ [v % 256]) (v + 1) k (by omega) (by omega) (by rw [snoc_len]; omega) (by omega)
    rw [snoc_len, show ((p.length + 1 : Nat) : Int) = (p.length : Int) + 1 by omega] at h
    rw [h]
    simp only [mkB, List.length_cons, Option.some.injEq, Prod.mk.injEq]
    refine ⟨by omega, by simp⟩
theorem heldB (r : List Int) : ∀ (p : List Int) (v : Int) (k : Nat), 0 ≤ v → v + r.length ≤ 1000000000000 → p.length + r.length ≤ 1000000000000 → r.length < k →
    laws_heldByteS.l0 k (p ++ mkB r v) v (p.length : Int) = some (v + r.length) := by
  induction r with
  | nil =>
    intro p v k hv h1 h2 hk
    obtain ⟨k, rfl⟩ := ix (show 0 < k by omega)
    rw [laws_heldByteS.l0, if_neg (by simp [mkB])]
    simp
  | cons a r ih =>
    intro p v k hv h1 h2 hk
    simp only [List.length_cons] at h1 h2 hk
    obtain ⟨k, rfl⟩ := ix (show 0 < k by omega)
    have hrd : rd (p ++ mkB (a :: r) v) (p.length : Int) = v % 256 := by
      unfold rd
      rw [Int.toNat_natCast, List.getD_eq_getElem?_getD, List.getElem?_append_right (Nat.le_refl _), Nat.sub_self]
      rfl
    rw [laws_heldByteS.l0, if_pos (by simp only [List.length_append, mkB_len, List.length_cons]; omega), if_pos (by omega), hrd, if_pos rfl, w64 (x := v + 1) (by omega) (by omega), w64 (x := (p.length : Int) + 1) (by omega) (by omega)]
    have h := ih (p ++ [v % 256]) (v + 1) k (by omega) (by omega) (by rw [snoc_len]; omega) (by omega)
    rw [snoc_len, show ((p.length + 1 : Nat) : Int) = (p.length : Int) + 1 by omega, ← snoc_mid] at h
    show laws_heldByteS.l0 k (p ++ (v % 256) :: mkB r (v + 1)) (v + 1) ((p.length : Int) + 1) = _
    rw [h]
    simp only [List.length_cons, Option.some.injEq]
    omega
def mk : List S59 → Int → List S59
  | [], _ => []
  | f :: l, v => ⟨v, v + 1, v + 1 + 1, mkB f.f3 (v + 1 + 1 + 1)⟩ :: mk l (v + 1 + 1 + 1 + f.f3.length)
def tot : List S59 → Int
  | [] => 0
  | f :: l => 3 + f.f3.length + tot l
theorem tot_nonneg : ∀ l, 0 ≤ tot l
  | [] => by simp [tot]
  | f :: l => by have := tot_nonneg l; simp only [tot]; omega
theorem tot_snoc : ∀ (l : List S59) (f : S59), tot (l ++ [f]) = tot l + 3 + f.f3.length
  | [], f => by simp [tot]
  | g :: l, f => by have := tot_snoc l f; simp only [List.cons_append, tot]; omega
theorem tot_len : ∀ l : List S59, (l.length : Int) ≤ tot l
  | [] => by simp [tot]
  | g :: l => by have := tot_len l; simp only [tot, List.length_cons]; omega
theorem tot_body : ∀ (l : List S59) (f : S59), f ∈ l → (f.f3.length : Int) ≤ tot l
  | [], f, h => by cases h
  | g :: l, f, h => by
    have h0 := tot_nonneg l
    simp only [tot]
    rcases List.mem_cons.1 h with rfl | h
    · omega
    · have := tot_body l f h
      omega
theorem mk_len : ∀ (l : List S59) (v : Int), (mk l v).length = l.length
  | [], _ => rfl
  | f :: l, v => by simp only [mk, List.length_cons, mk_len l]
theorem rd_mid (p : List S59) (a : S59) (r : List S59) : rd_T59 (p ++ a :: r) (p.length : Int) = a := by
  unfold rd_T59
  rw [Int.toNat_natCast, List.getD_eq_getElem?_getD, List.getElem?_append_right (Nat.le_refl _), Nat.sub_self]
  rfl
theorem markF (r : List S59) : ∀ (p : List S59) (v : Int) (k : Nat), 0 ≤ v → v + tot r ≤ 100000000000 → p.length + r.length ≤ 1000000000 → (tot r : Int) + r.length < k →
    laws_markFrameS.l0 k (p ++ r) v (p.length : Int) = some (v + tot r, p ++ mk r v) := by
  induction r with
  | nil =>
    intro p v k hv h1 h2 hk
    obtain ⟨k, rfl⟩ := ix (show 0 < k by simp [tot] at hk; omega)
    rw [laws_markFrameS.l0, if_neg (by simp)]
    simp [mk, tot]
  | cons f r ih =>
    intro p v k hv h1 h2 hk
    have h0 := tot_nonneg r
    simp only [List.length_cons, tot] at h1 h2 hk
    obtain ⟨k, rfl⟩ := ix (show 0 < k by omega)
    rw [laws_markFrameS.l0, if_pos (by simp only [List.length_append, List.length_cons]; omega), rd_mid, w64 (x := v + 1) (by omega) (by omega), w64 (x := v + 1 + 1) (by omega) (by omega), w64 (x := v + 1 + 1 + 1) (by omega) (by omega)]
    have hm := markB f.f3 [] (v + 1 + 1 + 1) k (by omega) (by omega) (by simp only [List.length_nil]; omega) (by omega)
    refine bs (show laws_markByteS.f k f.f3 (v + 1 + 1 + 1) = some (v + 1 + 1 + 1 + f.f3.length, mkB f.f3 (v + 1 + 1 + 1)) from hm) ?_
    dsimp only
    rw [Int.toNat_natCast, set_mid, snoc_mid, w64 (x := (p.length : Int) + 1) (by omega) (by omega)]
    have h := ih (p ++ [⟨v, v + 1, v + 1 + 1, mkB f.f3 (v + 1 + 1 + 1)⟩]) (v + 1 + 1 + 1 + f.f3.length) k (by omega) (by omega) (by rw [snoc_len]; omega) (by omega)
    rw [snoc_len, show ((p.length + 1 : Nat) : Int) = (p.length : Int) + 1 by omega] at h
    rw [h]
    simp only [mk, tot, Option.some.injEq, Prod.mk.injEq]
    refine ⟨by omega, by simp⟩
theorem heldF (r : List S59) : ∀ (p : List S59) (v : Int) (k : Nat), 0 ≤ v → v + tot r ≤ 100000000000 → p.length + r.length ≤ 1000000000 → (tot r : Int) + r.length < k →
    laws_heldFrameS.l0 k (p ++ mk r v) v (p.length : Int) = some (v + tot r) := by
  induction r with
  | nil =>
    intro p v k hv h1 h2 hk
    obtain ⟨k, rfl⟩ := ix (show 0 < k by simp [tot] at hk; omega)
    rw [laws_heldFrameS.l0, if_neg (by simp [mk])]
    simp [tot]
  | cons f r ih =>
    intro p v k hv h1 h2 hk
    have h0 := tot_nonneg r
    simp only [List.length_cons, tot] at h1 h2 hk
    obtain ⟨k, rfl⟩ := ix (show 0 < k by omega)
    have e1 : wrap64 (v + 1) = v + 1 := w64 (by omega) (by omega)
    have e2 : wrap64 (v + 1 + 1) = v + 1 + 1 := w64 (by omega) (by omega)
    have e3 : wrap64 (v + 1 + 1 + 1) = v + 1 + 1 + 1 := w64 (by omega) (by omega)
    have hm := heldB f.f3 [] (v + 1 + 1 + 1) k (by omega) (by omega) (by simp only [List.length_nil]; omega) (by omega)
    show laws_heldFrameS.l0 (k + 1) (p ++ (⟨v, v + 1, v + 1 + 1, mkB f.f3 (v + 1 + 1 + 1)⟩ : S59) :: mk r (v + 1 + 1 + 1 + f.f3.length)) v (p.length : Int) = _
    rw [laws_heldFrameS.l0, if_pos (by simp only [List.length_append, List.length_cons, mk_len]; omega), if_pos (by omega), rd_mid, e1, e2, e3, if_pos rfl, if_pos rfl, if_pos rfl]
    refine bs (show laws_heldByteS.f k (mkB f.f3 (v + 1 + 1 + 1)) (v + 1 + 1 + 1) = some (v + 1 + 1 + 1 + f.f3.length) from hm) ?_
    rw [if_neg (by omega), w64 (x := (p.length : Int) + 1) (by omega) (by omega), snoc_mid]
    have h := ih (p ++ [⟨v, v + 1, v + 1 + 1, mkB f.f3 (v + 1 + 1 + 1)⟩]) (v + 1 + 1 + 1 + f.f3.length) k (by omega) (by omega) (by rw [snoc_len]; omega) (by omega)
    rw [snoc_len, show ((p.length + 1 : Nat) : Int) = (p.length : Int) + 1 by omega] at h
    rw [h]
    simp only [tot, Option.some.injEq]
    omega
theorem markHeldF (l : List S59) (h : tot l ≤ 100000000) : (∀ k : Nat, 2 * tot l < (k : Int) → laws_markFrameS.f k l 1 = some (1 + tot l, mk l 1)) ∧ (∀ k : Nat, 2 * tot l < (k : Int) → laws_heldFrameS.f k (mk l 1) 1 = some (1 + tot l)) := by
  have hl := tot_len l
  refine ⟨fun k hk => ?_, fun k hk => ?_⟩
  · have := markF l [] 1 k (by omega) (by omega) (by simp only [List.length_nil]; omega) (by omega)
    unfold laws_markFrameS.f
    exact this
  · have := heldF l [] 1 k (by omega) (by omega) (by simp only [List.length_nil]; omega) (by omega)
    unfold laws_heldFrameS.f
    exact this
theorem eqB_l (l : List Int) (hl : l.length ≤ 1000000000000) (d : Nat) : ∀ (k : Nat) (i : Nat), i ≤ l.length → l.length - i = d → d < k → laws_eqByteS.l0 k l l (i : Int) = some true := by
  induction d with
  | zero =>
    intro k i hi hd hk
    obtain ⟨k, rfl⟩ := ix (show 0 < k by omega)
    simp only [laws_eqByteS.l0]
    rw [if_neg (by omega)]
  | succ d ih =>
    intro k i hi hd hk
    obtain ⟨k, rfl⟩ := ix (show 0 < k by omega)
    simp only [laws_eqByteS.l0]
    rw [if_pos (by omega), if_pos (by omega), if_pos (by omega), w64 (by omega) (by omega)]
    simp only [if_true]
    exact ih k (i + 1) (by omega) (by omega) (by omega)
theorem eqB (l : List Int) (hl : l.length ≤ 1000000000000) : ∀ k, l.length < k → laws_eqByteS.f k l l = some true := by
  intro k hk
  unfold laws_eqByteS.f
  rw [if_pos rfl]
  exact eqB_l l hl l.length k 0 (by omega) (by omega) hk
theorem eqF_l (l : List S59) (hl : tot l ≤ 100000000) (d : Nat) : ∀ (k : Nat) (i : Nat), i ≤ l.length → l.length - i = d → tot l + d < (k : Int) → laws_eqFrameS.l0 k l l (i : Int) = some true := by
  have h0 := tot_nonneg l
  have h1 := tot_len l
  induction d with
  | zero =>
    intro k i hi hd hk
    obtain ⟨k, rfl⟩ := ix (show 0 < k by omega)
    simp only [laws_eqFrameS.l0]
    rw [if_neg (by omega)]
  | succ d ih =>
    intro k i hi hd hk
    obtain ⟨k, rfl⟩ := ix (show 0 < k by omega)
    have hm : rd_T59 l (i : Int) ∈ l := by
      unfold rd_T59
      rw [Int.toNat_natCast, List.getD_eq_getElem?_getD, List.getElem?_eq_getElem (show i < l.length by omega), Option.getD_some]
      exact List.getElem_mem _
    have hb := tot_body l _ hm
    simp only [laws_eqFrameS.l0]
    rw [if_pos (by omega), if_pos (by omega), if_pos (by omega)]
    refine bs (a := true) ?_ ?_
    · unfold laws_eqFrame.f
      rw [if_pos rfl, if_pos rfl, if_pos rfl]
      exact bs (eqB _ (by omega) k (by omega)) rfl
    · rw [if_pos rfl, w64 (by omega) (by omega)]
      exact ih k (i + 1) (by omega) (by omega) (by omega)
theorem eqF (l : List S59) (hl : tot l ≤ 100000000) : ∀ k : Nat, 2 * tot l < (k : Int) → laws_eqFrameS.f k l l = some true := by
  intro k hk
  have h1 := tot_len l
  unfold laws_eqFrameS.f
  rw [if_pos rfl]
  exact eqF_l l hl l.length k 0 (by omega) (by omega) (by omega)
theorem markBf (l : List Int) (h : l.length ≤ 100000000) : (∀ k, l.length < k → laws_markByteS.f k l 1 = some (1 + (l.length : Int), mkB l 1)) := by
  intro k hk
  have := markB l [] 1 k (by omega) (by omega) (by simp only [List.length_nil]; omega) hk
  unfold laws_markByteS.f
  exact this
end Go.Proofs.Ytlgfcpmihocheaa.LibFk
