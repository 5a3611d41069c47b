/- Drawn texts. Condition: each theorem's own bounds. -/
import Derived.Test.YthflimnpiglgbaaDoorLibD
import Derived.Test.YthflimnpiglgbaaDoorAx17
import Derived.Test.YthflimnpiglgbaaDoorAx18
set_option linter.unusedVariables false
set_option linter.unusedSimpArgs false
namespace Go.Proofs.YthflimnpiglgbaaDoor.LibDs
open Go.RowKit Go.Proofs.YthflimnpiglgbaaDoor.A Go.Proofs.YthflimnpiglgbaaDoorW.PrintWords Go.Proofs.YthflimnpiglgbaaDoorW.PrintLast Go.Proofs.YthflimnpiglgbaaDoorW.PrintMore Go.Proofs.YthflimnpiglgbaaDoor.LibU Go.Proofs.YthflimnpiglgbaaDoor.LibD
theorem l1Str (b : List Int) (i h : Int) (l : List ByteArray) (hl : 0 < l.length ∧ l.length ≤ 1000) (hi : CI b i) : ∃ x i' h', spec_l1Str.f b i h l = some (x, i', h') ∧ x ∈ l ∧ CI b i' := by
  unfold spec_l1Str.f
  obtain ⟨x, i', h', e, hx0, hx1, _, hi'⟩ := l1Below b i h l.length (by omega) hi
  rw [e]
  simp only [Option.bind_some]
  have hx2 := hx1 (by omega)
  obtain ⟨n, rfl⟩ := Int.eq_ofNat_of_zero_le hx0
  have hn : n < l.length := by omega
  rw [if_pos hx0, if_pos (by omega)]
  refine ⟨_, _, _, rfl, ?_, hi'⟩
  have e : rdOf ByteArray.empty l (n : Int) = l[n] := by simp [rdOf, List.getD_eq_getElem?_getD, List.getElem?_eq_getElem hn]
  rw [e]
  exact List.getElem_mem hn
theorem some_l (b : List Int) (d : Nat) : ∀ (n : Nat) (s : ByteArray) (i h : Int), n = d → n ≤ 10 → s.size + 20 * d ≤ 1000 → CI b i → ∃ s' i' h', (∀ k, d < k → spec_l3Some.l0 k s (n : Int) b i h = some (s', i', h')) ∧ s'.size ≤ s.size + 20 * d ∧ CI b i' := by
  induction d with
  | zero =>
    intro n s i h hn hn2 hs hi
    refine ⟨s, i, h, fun k hk => ?_, by omega, hi⟩
    obtain ⟨k, rfl⟩ := ix (show 0 < k by omega)
    simp only [spec_l3Some.l0]
    rw [if_neg (by omega)]
  | succ d ih =>
    intro n s i h hn hn2 hs hi
    obtain ⟨x, i1, h1, e, hx, hi1⟩ := l1Str b i h (((⟨#[97]⟩ : ByteArray) :: (⟨#[71, 69, 84]⟩ : ByteArray) :: (⟨#[47, 120]⟩ : ByteArray) :: (⟨#[48]⟩ : ByteArray) :: (⟨#[119, 119, 119, 46, 101, 120, 97, 109, 112, 108, 101, 46, 99, 111, 109]⟩ : ByteArray) :: (⟨#[0]⟩ : ByteArray) :: (⟨#[126]⟩ : ByteArray) :: (⟨#[255]⟩ : ByteArray) :: (⟨#[123]⟩ : ByteArray) :: (⟨#[90]⟩ : ByteArray) :: (⟨#[32]⟩ : ByteArray) :: [] : List ByteArray)) (by simp) hi
    have hx2 : x.size ≤ 20 := by
      simp only [List.mem_cons, List.mem_nil_iff, or_false] at hx
      rcases hx with rfl | rfl | rfl | rfl | rfl | rfl | rfl | rfl | rfl | rfl | rfl <;> decide
    have hsx : (s ++ x).size = s.size + x.size := ByteArray.size_append
    obtain ⟨s', i', h', g1, g2, g3⟩ := ih d (s ++ x) i1 h1 rfl (by omega) (by omega) hi1
    refine ⟨s', i', h', fun k hk => ?_, by omega, g3⟩
    obtain ⟨k, rfl⟩ := ix (show 0 < k by omega)
    simp only [spec_l3Some.l0]
    rw [if_pos (by omega)]
    refine bs e ?_
    rw [if_pos (by show s.size + x.size ≤ 9223372036854775807; omega), w64 (by omega) (by omega), show (n : Int) - 1 = (d : Int) by omega]
    exact g1 k (by omega)
theorem l3Some (b : List Int) (i h : Int) (hi : CI b i) : ∃ s i' h', (∀ k, 10 ≤ k → spec_l3Some.f k b i h = some (s, i', h')) ∧ s.size ≤ 200 ∧ CI b i' := by
  obtain ⟨x, i1, h1, e, hx0, hx1, _, hi1⟩ := l1Below b i h 6 (by omega) hi
  obtain ⟨n, rfl⟩ := Int.eq_ofNat_of_zero_le hx0
  have hn := hx1 (by omega)
  have hz : (⟨#[]⟩ : ByteArray).size + 20 * n ≤ 1000 := by
    show 0 + 20 * n ≤ 1000
    omega
  obtain ⟨s', i', h', g1, g2, g3⟩ := some_l b n n ⟨#[]⟩ i1 h1 rfl (by omega) hz hi1
  refine ⟨s', i', h', fun k hk => ?_, ?_, g3⟩
  · unfold spec_l3Some.f
    refine bs e ?_
    exact g1 k (by omega)
  · have : (⟨#[]⟩ : ByteArray).size = 0 := rfl
    omega
theorem drawHuff (l : List Int) (hl : l.length ≤ 140737488351232) : ∃ K s, (∀ k, K ≤ k → spec_DrawHuff.f k l = some s) ∧ s.size ≤ 200 := by
  obtain ⟨K, q, h1, h2⟩ := l1New l hl
  obtain ⟨s, i', h', g1, g2, g3⟩ := l3Some l 0 q h2
  refine ⟨K + 10, s, fun k hk => ?_, g2⟩
  unfold spec_DrawHuff.f
  refine bs (h1 k (by omega)) ?_
  refine bs (g1 k (by omega)) ?_
  rfl
end Go.Proofs.YthflimnpiglgbaaDoor.LibDs
