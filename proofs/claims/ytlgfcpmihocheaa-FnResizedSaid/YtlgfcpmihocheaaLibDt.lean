/- Drawn fields and tables: how many fields, and how great. Condition: each theorem's own bounds. -/
import Derived.Test.YtlgfcpmihocheaaLibRs
import Derived.Test.YtlgfcpmihocheaaLibD
import Derived.Test.YtlgfcpmihocheaaAx5
import Derived.Test.YtlgfcpmihocheaaAx8
import Derived.Test.YtlgfcpmihocheaaAx9
import Derived.Test.YtlgfcpmihocheaaAx10
import Derived.Test.YtlgfcpmihocheaaAx11
set_option linter.unusedVariables false
set_option linter.unusedSimpArgs false
namespace Go.Proofs.Ytlgfcpmihocheaa.LibDt
open Go.RowKit Go.Proofs.Ytlgfcpmihocheaa.A Go.Proofs.YtlgfcpmihocheaaW.PrintWords Go.Proofs.YtlgfcpmihocheaaW.PrintLast Go.Proofs.YtlgfcpmihocheaaW.PrintMore Go.Proofs.Ytlgfcpmihocheaa.LibU Go.Proofs.Ytlgfcpmihocheaa.LibD Go.Proofs.Ytlgfcpmihocheaa.LibRz
theorem l1Int (b : List Int) (i h : Int) (l : List Int) (hl : 0 < l.length ∧ l.length ≤ 1000) (hi : CI b i) : ∃ x i' h', spec_l1Int.f b i h l = some (x, i', h') ∧ x ∈ l ∧ CI b i' := by
  unfold spec_l1Int.f
  obtain ⟨x, i', h', e, hx0, hx1, _, hi'⟩ := l1Below b i h l.length (by omega) hi
  rw [e]
  simp only [Option.bind_some]
  have hx := hx1 (by omega)
  rw [if_pos hx0, if_pos hx]
  refine ⟨_, _, _, rfl, ?_, hi'⟩
  unfold rd
  rw [List.getD_eq_getElem?_getD, List.getElem?_eq_getElem (show x.toNat < l.length by omega)]
  exact List.getElem_mem _
theorem l1Str (b : List Int) (i h : Int) (l : List ByteArray) (hl : 0 < l.length ∧ l.length ≤ 1000) (hi : CI b i) : ∃ x i' h', spec_l1Str.f b i h l = some (x, i', h') ∧ x ∈ l ∧ CI b i' := by
  unfold spec_l1Str.f
  obtain ⟨x, i', h', e, hx0, hx1, _, hi'⟩ := l1Below b i h l.length (by omega) hi
  rw [e]
  simp only [Option.bind_some]
  have hx2 := hx1 (by omega)
  obtain ⟨n, rfl⟩ := Int.eq_ofNat_of_zero_le hx0
  have hn : n < l.length := by omega
  rw [if_pos hx0, if_pos (by omega)]
  refine ⟨_, _, _, rfl, ?_, hi'⟩
  have e : rdOf ByteArray.empty l (n : Int) = l[n] := by simp [rdOf, List.getD_eq_getElem?_getD, List.getElem?_eq_getElem hn]
  rw [e]
  exact List.getElem_mem hn
/-- A drawn field is small. -/
def Small (x : S33) : Prop := x.f0.size ≤ 40 ∧ x.f1.size ≤ 40
def names : List ByteArray := ([(⟨#[58, 109, 101, 116, 104, 111, 100]⟩ : ByteArray), (⟨#[58, 112, 97, 116, 104]⟩ : ByteArray), (⟨#[58, 115, 116, 97, 116, 117, 115]⟩ : ByteArray), (⟨#[97, 103, 101]⟩ : ByteArray), (⟨#[120, 45, 97]⟩ : ByteArray), (⟨#[97, 117, 116, 104, 111, 114, 105, 122, 97, 116, 105, 111, 110]⟩ : ByteArray), (⟨#[117, 112, 108, 111, 97, 100, 45, 111, 102, 102, 115, 101, 116]⟩ : ByteArray), (⟨#[99, 111, 111, 107, 105, 101]⟩ : ByteArray)] : List ByteArray)
def vals : List ByteArray := ([(⟨#[71, 69, 84]⟩ : ByteArray), (⟨#[47]⟩ : ByteArray), (⟨#[50, 48, 48]⟩ : ByteArray), (⟨#[]⟩ : ByteArray), (⟨#[55]⟩ : ByteArray), (⟨#[97, 32, 108, 111, 110, 103, 32, 118, 97, 108, 117, 101, 32, 111, 102, 32, 115, 111, 109, 101, 32, 98, 121, 116, 101, 115]⟩ : ByteArray), (⟨#[80, 65, 84, 67, 72]⟩ : ByteArray)] : List ByteArray)
theorem l4Field (b : List Int) (i h : Int) (hi : CI b i) : ∃ n v i' h', spec_l4Field.f b i h = some (n, v, i', h') ∧ Small ⟨n, v⟩ ∧ CI b i' := by
  unfold spec_l4Field.f
  obtain ⟨n, i1, h1, e1, m1, hi1⟩ := l1Str b i h names (by decide) hi
  obtain ⟨v, i2, h2, e2, m2, hi2⟩ := l1Str b i1 h1 vals (by decide) hi1
  refine ⟨n, v, i2, h2, bs e1 (bs e2 rfl), ⟨?_, ?_⟩, hi2⟩
  · show n.size ≤ 40
    simp only [names, List.mem_cons, List.mem_nil_iff, or_false] at m1
    rcases m1 with rfl | rfl | rfl | rfl | rfl | rfl | rfl | rfl <;> decide
  · show v.size ≤ 40
    simp only [vals, List.mem_cons, List.mem_nil_iff, or_false] at m2
    rcases m2 with rfl | rfl | rfl | rfl | rfl | rfl | rfl <;> decide
theorem S_small : ∀ l : List S33, (∀ x ∈ l, Small x) → S l ≤ 112 * l.length
  | [], _ => by simp [S]
  | x :: l, h => by
    have h1 := S_small l (fun y hy => h y (List.mem_cons_of_mem _ hy))
    have h2 := h x List.mem_cons_self
    unfold Small at h2
    simp only [S, sz, List.length_cons]
    omega
theorem l4Add (m : Int) (l : List S33) (n v : ByteArray) (hm : 0 ≤ m) (hl : l.length ≤ 100) (hs : ∀ x ∈ l, Small x) (hx : Small ⟨n, v⟩) : ∃ l', (∀ k, 1000 ≤ k → spec_l4Add.f k m l n v = some (m, l')) ∧ l'.length ≤ l.length + 1 ∧ (∀ x ∈ l', Small x) := by
  have hs' : ∀ x ∈ (⟨n, v⟩ : S33) :: l, Small x := by
    intro x hx'
    rcases List.mem_cons.1 hx' with rfl | hx'
    · exact hx
    · exact hs x hx'
  have hS := S_small _ hs'
  simp only [List.length_cons] at hS
  obtain ⟨j, h1, h2, h3, h4⟩ := fit_any ((⟨n, v⟩ : S33) :: l) m (by simp only [List.length_cons]; omega) (by omega) hm
  refine ⟨((⟨n, v⟩ : S33) :: l).take j, fun k hk => ?_, ?_, fun x hx' => hs' x (List.mem_of_mem_take hx')⟩
  · unfold spec_l4Add.f
    rw [Option.bind_some, if_pos (by simp only [List.length_cons, List.length_nil]; omega)]
    exact bs (h4 k (by simp only [List.length_cons]; omega)) rfl
  · rw [List.length_take]
    simp only [List.length_cons]
    omega
theorem draw_l (b : List Int) (m : Int) (hm : 0 ≤ m) (d : Nat) : ∀ (i h : Int) (l : List S33), CI b i → l.length + d ≤ 50 → (∀ x ∈ l, Small x) →
    ∃ l' i' h', (∀ k, 1000 + d < k → spec_l4Draw.l0 k (d : Int) b i h m l = some (m, l', i', h')) ∧ l'.length ≤ l.length + d ∧ (∀ x ∈ l', Small x) ∧ CI b i' := by
  induction d with
  | zero =>
    intro i h l hi hl hs
    refine ⟨l, i, h, fun k hk => ?_, by omega, hs, hi⟩
    obtain ⟨k, rfl⟩ := ix (show 0 < k by omega)
    simp only [spec_l4Draw.l0]
    rw [if_neg (by omega)]
  | succ d ih =>
    intro i h l hi hl hs
    obtain ⟨n, v, i1, h1, e1, s1, hi1⟩ := l4Field b i h hi
    obtain ⟨l1, a1, a2, a3⟩ := l4Add m l n v hm (by omega) hs s1
    obtain ⟨l2, i2, h2, b1, b2, b3, b4⟩ := ih i1 h1 l1 hi1 (by omega) a3
    refine ⟨l2, i2, h2, fun k hk => ?_, by omega, b3, b4⟩
    obtain ⟨k, rfl⟩ := ix (show 0 < k by omega)
    simp only [spec_l4Draw.l0]
    rw [if_pos (by omega)]
    refine bs e1 (bs (a1 k (by omega)) ?_)
    rw [w64 (by omega) (by omega), show ((d + 1 : Nat) : Int) - 1 = (d : Int) by omega]
    exact b1 k (by omega)
theorem l4Draw (b : List Int) (i h : Int) (hi : CI b i) : ∃ m l i' h', (∀ k, 2000 ≤ k → spec_l4Draw.f k b i h = some (m, l, i', h')) ∧ l.length ≤ 6 ∧ (∀ x ∈ l, Small x) ∧ 0 ≤ m ∧ m ≤ 4096 ∧ CI b i' := by
  unfold spec_l4Draw.f
  obtain ⟨m, i1, h1, e1, m1, hi1⟩ := l1Int b i h [200, 100, 4096, 0, 60] (by decide) hi
  obtain ⟨n, i2, h2, e2, n0, n1, _, hi2⟩ := l1Below b i1 h1 6 (by omega) hi1
  have hm : 0 ≤ m ∧ m ≤ 4096 := by
    simp only [List.mem_cons, List.mem_nil_iff, or_false] at m1
    omega
  have n2 := n1 (by omega)
  obtain ⟨d, rfl⟩ := Int.eq_ofNat_of_zero_le n0
  obtain ⟨l, i3, h3, g1, g2, g3, g4⟩ := draw_l b m hm.1 d i2 h2 [] hi2 (by simp only [List.length_nil]; omega) (by intro x hx; cases hx)
  refine ⟨m, l, i3, h3, fun k hk => bs e1 (bs e2 (g1 k (by omega))), ?_, g3, hm.1, hm.2, g4⟩
  simp only [List.length_nil] at g2
  omega
theorem l4Any (b : List Int) (i h : Int) (hi : CI b i) : ∃ m l i' h', (∀ k, 2000 ≤ k → spec_l4Any.f k b i h = some (m, l, i', h')) ∧ l.length ≤ 8 ∧ (∀ x ∈ l, Small x) ∧ -1 ≤ m ∧ m ≤ 4097 ∧ CI b i' := by
  unfold spec_l4Any.f
  obtain ⟨m, l, i1, h1, e1, hl, hs, hm0, hm1, hi1⟩ := l4Draw b i h hi
  obtain ⟨q, i2, h2, e2, q0, q1, _, hi2⟩ := l1Below b i1 h1 10 (by omega) hi1
  by_cases c0 : q = 0
  · obtain ⟨m', i3, h3, e3, m3, hi3⟩ := l1Int b i2 h2 [(-1), 4097, 10] (by decide) hi2
    have hm : -1 ≤ m' ∧ m' ≤ 4097 := by
      simp only [List.mem_cons, List.mem_nil_iff, or_false] at m3
      omega
    exact ⟨m', l, i3, h3, fun k hk => bs (e1 k hk) (bs e2 (ifp c0 (bs e3 rfl))), by omega, hs, hm.1, hm.2, hi3⟩
  · by_cases c1 : q = 1
    · obtain ⟨n3, v3, i3, h3, e3, s3, hi3⟩ := l4Field b i2 h2 hi2
      obtain ⟨n4, v4, i4, h4, e4, s4, hi4⟩ := l4Field b i3 h3 hi3
      refine ⟨m, l ++ [⟨n3, v3⟩, ⟨n4, v4⟩], i4, h4, fun k hk => bs (e1 k hk) (bs e2 (ifn c0 (ifp c1 (bs e3 (bs e4 (bs rfl (ifp ?_ rfl))))))), ?_, ?_, by omega, by omega, hi4⟩
      · simp only [List.length_cons, List.length_nil]; omega
      · simp only [List.length_append, List.length_cons, List.length_nil]; omega
      · intro x hx
        simp only [List.mem_append, List.mem_cons, List.mem_nil_iff, or_false] at hx
        rcases hx with hx | rfl | rfl
        · exact hs x hx
        · exact s3
        · exact s4
    · exact ⟨m, l, i2, h2, fun k hk => bs (e1 k hk) (bs e2 (ifn c0 (ifn c1 rfl))), by omega, hs, by omega, by omega, hi2⟩
end Go.Proofs.Ytlgfcpmihocheaa.LibDt
