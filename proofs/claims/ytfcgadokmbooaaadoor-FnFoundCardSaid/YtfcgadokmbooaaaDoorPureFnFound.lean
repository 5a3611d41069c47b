/- For every input: FnFound answers true: what is found in a drawn table by its number is that field; by a name alone it has that name; the first ones are found by themselves. No condition. -/
import Derived.Test.YtfcgadokmbooaaaDoorLibZy
import Derived.Test.YtfcgadokmbooaaaDoorAx9
import Derived.Test.YtfcgadokmbooaaaDoorAx10
import Derived.Test.YtfcgadokmbooaaaDoorAx19
import Derived.Test.YtfcgadokmbooaaaDoorAx20
import Derived.Test.YtfcgadokmbooaaaDoorAx21
import Derived.Test.YtfcgadokmbooaaaDoorAx22
set_option linter.unusedVariables false
set_option linter.unusedSimpArgs false
namespace Go.Proofs.YtfcgadokmbooaaaDoor.Pure
open Go Go.RowKit Go.Proofs.YtfcgadokmbooaaaDoor.A Go.Proofs.YtfcgadokmbooaaaDoorW.PrintWords Go.Proofs.YtfcgadokmbooaaaDoorW.PrintLast Go.Proofs.YtfcgadokmbooaaaDoorW.PrintMore Go.Proofs.YtfcgadokmbooaaaDoor.LibU Go.Proofs.YtfcgadokmbooaaaDoor.LibD Go.Proofs.YtfcgadokmbooaaaDoor.LibDt Go.Proofs.YtfcgadokmbooaaaDoor.LibFF Go.Proofs.YtfcgadokmbooaaaDoor.LibFd
/-- No two of the first fields are one. -/
def pairs : List (List UInt8 × List UInt8) := fields.map fun x => (x.1, x.2.getD [])
theorem pairs_apart : ∀ q, q < 61 → ∀ p, p < 61 → q < p → pairs.getD q ([], []) ≠ pairs.getD p ([], []) := by decide +kernel
theorem tl_loop (b : ByteArray) (d : Nat) : ∀ (i : Nat) (r : List UInt8), b.size - i = d → i ≤ b.size → ByteArray.toList.loop b i r = r.reverse ++ b.data.toList.drop i := by
  induction d with
  | zero =>
    intro i r hd hi
    rw [ByteArray.toList.loop, if_neg (by omega), List.drop_of_length_le (by have : b.data.toList.length = b.size := Array.length_toList; omega), List.append_nil]
  | succ d ih =>
    intro i r hd hi
    have hs : b.data.toList.length = b.size := Array.length_toList
    rw [ByteArray.toList.loop, if_pos (by omega), ih (i + 1) _ (by omega) (by omega), List.reverse_cons, List.append_assoc, List.singleton_append]
    congr 1
    have hb : i < b.data.size := by
      have h0 : b.data.size = b.size := rfl
      omega
    rw [List.drop_eq_getElem_cons (show i < b.data.toList.length by rw [hs]; omega)]
    congr 1
    show b.data[i]! = _
    rw [getElem!_pos b.data i hb]
    simp
theorem toList_of (l : List UInt8) : (⟨l.toArray⟩ : ByteArray).toList = l := by
  unfold ByteArray.toList
  rw [tl_loop _ _ 0 [] rfl (Nat.zero_le _)]
  rfl
theorem pair_at (j : Nat) (hj : j < 61) : ((rd_T23 (fields.map fieldOf) (j : Int)).f0.toList, (rd_T23 (fields.map fieldOf) (j : Int)).f1.toList) = pairs.getD j ([], []) := by
  have hF : fields.length = 61 := by have := fields_len; rwa [List.length_map] at this
  unfold rd_T23 pairs
  rw [Int.toNat_natCast, List.getD_eq_getElem?_getD, List.getD_eq_getElem?_getD, List.getElem?_map, List.getElem?_map, List.getElem?_eq_getElem (by omega)]
  simp only [Option.map_some, Option.getD_some, fieldOf, toList_of]
theorem drawFind (l : List Int) (hl : l.length ≤ 140737488351232) : ∃ K m t n v, (∀ k, K ≤ k → spec_DrawFindField.f k l = some (m, t, n, v)) ∧ t.length ≤ 8 := by
  obtain ⟨K, q, h1, h2⟩ := l1New l hl
  obtain ⟨m, t, i1, q1, e1, a1, a2, a3, a4, hi1⟩ := l4Any l 0 q h2
  have hj : ∀ i h, CI l i → ∃ n v, ∀ k, 1 ≤ k → spec_DrawFindField.j0 k false l i h m t = some (m, t, n, v) := by
    intro i h hi
    obtain ⟨n, v, i', h', e, _, _⟩ := l4Field l i h hi
    refine ⟨n, v, fun k hk => ?_⟩
    obtain ⟨k, rfl⟩ := ix (show 0 < k by omega)
    rw [spec_DrawFindField.j0, if_neg (by decide)]
    exact bs e rfl
  by_cases c : (t.length : Int) > 0
  · obtain ⟨o, i2, q2, e2, o0, o1, _, hi2⟩ := l1Below l i1 q1 2 (by omega) hi1
    have ho : spec_l1Once.f l i1 q1 2 = some ((o == 0), i2, q2) := by
      unfold spec_l1Once.f
      exact bs e2 rfl
    by_cases c0 : o = 0
    · obtain ⟨z, i3, q3, e3, z0, z1, _, hi3⟩ := l1Below l i2 q2 t.length (by omega) hi2
      have z2 := z1 (by omega)
      refine ⟨K + 2001, m, t, (rd_T23 t z).f0, (rd_T23 t z).f1, fun k hk => ?_, a1⟩
      obtain ⟨k, rfl⟩ := ix (show 0 < k by omega)
      unfold spec_DrawFindField.f
      refine bs (h1 _ (by omega)) (bs (e1 _ (by omega)) (ifp c (bs ho ?_)))
      subst c0
      rw [spec_DrawFindField.j0]
      refine ifp rfl ?_
      exact bs e3 (ifp z0 (ifp z2 rfl))
    · obtain ⟨n, v, hn⟩ := hj i2 q2 hi2
      refine ⟨K + 2001, m, t, n, v, fun k hk => ?_, a1⟩
      unfold spec_DrawFindField.f
      refine bs (h1 _ (by omega)) (bs (e1 _ (by omega)) (ifp c (bs ho ?_)))
      rw [show (o == 0) = false by simpa using c0]
      exact hn k (by omega)
  · obtain ⟨n, v, hn⟩ := hj i1 q1 hi1
    refine ⟨K + 2001, m, t, n, v, fun k hk => ?_, a1⟩
    unfold spec_DrawFindField.f
    exact bs (h1 _ (by omega)) (bs (e1 _ (by omega)) (ifn c (hn k (by omega))))
theorem at2 (l : List Int) (hl : l.length ≤ 140737488351232) (hw : ∀ x ∈ l, (Lit.int .u8 x).wf = true) : ∃ a, laws_at.f l 2 = some a ∧ 0 ≤ a ∧ a ≤ 255 := by
  unfold laws_at.f
  by_cases c : (2 : Int) < (l.length : Int)
  · rw [if_pos c, if_pos (by decide)]
    have hx := wf8 (hw _ (List.getElem_mem (show 2 < l.length by omega)))
    have hr : rd l 2 = l[2] := by
      unfold rd
      rw [List.getD_eq_getElem?_getD, show (2 : Int).toNat = 2 from rfl, List.getElem?_eq_getElem (by omega), Option.getD_some]
    rw [hr, w64 (by omega) (by omega)]
    exact ⟨_, rfl, hx⟩
  · rw [if_neg c]
    have hq : 0 ≤ wrap64 ((wrap64 (2 * 31)) + (wrap64 ((l.length : Int) * 7))) := by
      rw [w64 (x := 2 * 31) (by omega) (by omega), w64 (x := (l.length : Int) * 7) (by omega) (by omega), w64 (by omega) (by omega)]
      omega
    refine ⟨_, rfl, ?_⟩
    rw [Int.tmod_eq_emod_of_nonneg hq]
    omega
theorem tail (l : List Int) (hl : l.length ≤ 140737488351232) (hw : ∀ x ∈ l, (Lit.int .u8 x).wf = true) (m : Int) (t : List S23) (ht : t.length ≤ 8) : ∀ k, 1000 ≤ k → laws_FnFound.j2 k l m t = some true := by
  intro k hk
  obtain ⟨k, rfl⟩ := ix (show 0 < k by omega)
  obtain ⟨a, ha, a0, a1⟩ := at2 l hl hw
  have hF := fields_len
  obtain ⟨p, hp⟩ : ∃ p : Nat, (p : Int) = a % 61 := ⟨(a % 61).toNat, by omega⟩
  have hp61 : p < 61 := by omega
  have e : wrap64 (1 + Int.tmod a 61) = ((p + 1 : Nat) : Int) := by
    rw [Int.tmod_eq_emod_of_nonneg a0, ← hp, w64 (by omega) (by omega)]
    omega
  rw [laws_FnFound.j2]
  refine bs ha ?_
  rw [e]
  refine bs (firstField (p + 1) (by omega) (by omega) k (by omega)) ?_
  rw [show p + 1 - 1 = p by omega]
  dsimp only
  have hL : (fields.map fieldOf ++ t).length = 61 + t.length := by rw [List.length_append, hF]
  have hfi := first_l (fields.map fieldOf ++ t) (by omega) (rd_T23 (fields.map fieldOf) (p : Int)).f0 (rd_T23 (fields.map fieldOf) (p : Int)).f1 p (by omega)
    (by rw [rd_left _ _ _ (by omega)]; simp) (fun q hq => by
      rw [rd_left _ _ _ (by omega)]
      intro h
      have h1 : (rd_T23 (fields.map fieldOf) (q : Int)).f0.toList = (rd_T23 (fields.map fieldOf) (p : Int)).f0.toList ∧ (rd_T23 (fields.map fieldOf) (q : Int)).f1.toList = (rd_T23 (fields.map fieldOf) (p : Int)).f1.toList := by simpa using h
      refine pairs_apart q (by omega) p hp61 hq ?_
      rw [← pair_at q (by omega), ← pair_at p hp61, h1.1, h1.2]) p 0 0 (by omega) (by omega) k (by omega)
  have hff : impl_FindField.f k m t (rd_T23 (fields.map fieldOf) (p : Int)).f0 (rd_T23 (fields.map fieldOf) (p : Int)).f1 = some (((p + 1 : Nat) : Int), true) := by
    unfold impl_FindField.f
    exact bs (firsts _ (by omega)) (bs (concat _ _ (by omega) _ (by omega)) hfi)
  refine bs hff ?_
  simp
theorem FnFound : laws_FnFound.Pure := by
  intro l h1 h2 hw
  obtain ⟨K, m, t, n, v, hd, ht⟩ := drawFind l (by omega)
  obtain ⟨r, hs, hi, hg⟩ := found m t n v (by omega)
  have htl := tail l (by omega) hw m t ht
  have hF := fields_len
  have hL : (fields.map fieldOf ++ t).length = 61 + t.length := by rw [List.length_append, hF]
  have hj1 : ∀ k, 1001 ≤ k → laws_FnFound.j1 k l false m t = some true := fun k hk => by
    obtain ⟨k, rfl⟩ := ix (show 0 < k by omega)
    rw [laws_FnFound.j1, if_neg (by decide)]
    exact htl k (by omega)
  refine ⟨K + 5002, ?_⟩
  unfold laws_FnFound.f
  obtain ⟨b, hb⟩ : ∃ b, laws_big.f l = some b := by unfold laws_big.f; exact ⟨_, rfl⟩
  refine bs hb ?_
  cases b with
  | true => exact ifp rfl rfl
  | false =>
  refine ifn (by decide) (bs (hd _ (by omega)) (bs (hi _ (by omega)) (bs (hs _ (by omega)) (ifp rfl ?_))))
  dsimp only
  have hbb : (r.2 != r.2) = false := by simp
  rw [hbb, laws_FnFound.j0, if_neg (by decide)]
  obtain ⟨ri, rb⟩ := r
  cases rb with
  | true =>
    obtain ⟨j, hj, hjl, q1, q2⟩ := hg.1 rfl
    obtain rfl : ri = (j : Int) + 1 := hj
    dsimp only
    rw [if_pos (by omega)]
    refine bs (fieldAt m t (by omega) j (by omega) _ (by omega)) ?_
    dsimp only
    rw [if_pos rfl, if_pos rfl, q1, q2, if_neg (by simp)]
    rw [show (n.toList != n.toList) = false by simp]
    exact hj1 _ (by omega)
  | false =>
    rcases hg.2 rfl with hj | ⟨j, hj, hjl, q1⟩
    · obtain rfl : ri = 0 := hj
      dsimp only
      rw [if_neg (by omega)]
      exact htl _ (by omega)
    · obtain rfl : ri = (j : Int) + 1 := hj
      dsimp only
      rw [if_pos (by omega)]
      refine bs (fieldAt m t (by omega) j (by omega) _ (by omega)) ?_
      dsimp only
      rw [if_pos rfl, if_neg (by decide), q1, show (n.toList != n.toList) = false by simp]
      exact hj1 _ (by omega)
end Go.Proofs.YtfcgadokmbooaaaDoor.Pure
