/- For every input: FnTables answers true: a field put into a drawn table is its newest, or the table is empty; the table is right, and the others are as they were. No condition. -/
import Derived.Test.YtfcgadokmbooaaaDoorLibZt
import Derived.Test.YtfcgadokmbooaaaDoorAx5
import Derived.Test.YtfcgadokmbooaaaDoorAx14
import Derived.Test.YtfcgadokmbooaaaDoorAx15
import Derived.Test.YtfcgadokmbooaaaDoorAx22
import Derived.Test.YtfcgadokmbooaaaDoorAx26
set_option linter.unusedVariables false
set_option linter.unusedSimpArgs false
namespace Go.Proofs.YtfcgadokmbooaaaDoor.Pure
open Go Go.RowKit Go.Proofs.YtfcgadokmbooaaaDoor.A Go.Proofs.YtfcgadokmbooaaaDoorW.PrintWords Go.Proofs.YtfcgadokmbooaaaDoorW.PrintLast Go.Proofs.YtfcgadokmbooaaaDoorW.PrintMore Go.Proofs.YtfcgadokmbooaaaDoor.LibU Go.Proofs.YtfcgadokmbooaaaDoor.LibD Go.Proofs.YtfcgadokmbooaaaDoor.LibRz Go.Proofs.YtfcgadokmbooaaaDoor.LibDt Go.Proofs.YtfcgadokmbooaaaDoor.LibSm
theorem size_nums (l : List Int) : (strOfNums l).size = l.length := by
  show (strOfNums l).data.size = l.length
  rw [← Array.length_toList, strOfNums_data]
  simp
theorem drawAdd (l : List Int) (hl : l.length ≤ 140737488351232) : ∃ K m t n v, (∀ k, K ≤ k → spec_DrawAddField.f k l = some (m, t, n, v)) ∧ t.length ≤ 8 ∧ (∀ x ∈ t, Small x) ∧ n.size ≤ 40 ∧ v.size ≤ 4065 := by
  obtain ⟨K, q, h1, h2⟩ := l1New l hl
  obtain ⟨n, v, i1, q1, e1, ⟨s1, s2⟩, hi1⟩ := l4Field l 0 q h2
  have s1 : n.size ≤ 40 := s1
  have s2 : v.size ≤ 40 := s2
  obtain ⟨o, i2, q2, e2, o0, o1, _, hi2⟩ := l1Below l i1 q1 12 (by omega) hi1
  have ho : spec_l1Once.f l i1 q1 12 = some ((o == 0), i2, q2) := by
    unfold spec_l1Once.f
    exact bs e2 rfl
  by_cases c : o = 0
  · obtain ⟨z, i3, q3, e3, z0, z1, _, hi3⟩ := l1Below l i2 q2 2 (by omega) hi2
    have z2 := z1 (by omega)
    obtain ⟨m, t, i4, q4, e4, a1, a2, a3, a4, hi4⟩ := l4Any l i3 q3 hi3
    refine ⟨K + 2000, m, t, n, strOfNums (List.replicate (4064 - (n.size : Int) + z).toNat 0), fun k hk => ?_, a1, a2, s1, by rw [size_nums, List.length_replicate]; omega⟩
    unfold spec_DrawAddField.f
    have hw : wrap64 ((wrap64 (4064 - (n.size : Int))) + z) = 4064 - (n.size : Int) + z := by rw [w64 (x := 4064 - (n.size : Int)) (by omega) (by omega), w64 (by omega) (by omega)]
    refine bs (h1 k (by omega)) (bs e1 (bs ho ?_))
    subst c
    refine ifp rfl (bs e3 ?_)
    dsimp only
    rw [hw]
    exact ifp (by omega) (ifp (by omega) (bs (e4 k (by omega)) rfl))
  · obtain ⟨m, t, i4, q4, e4, a1, a2, a3, a4, hi4⟩ := l4Any l i2 q2 hi2
    refine ⟨K + 2000, m, t, n, v, fun k hk => ?_, a1, a2, s1, by omega⟩
    unfold spec_DrawAddField.f
    refine bs (h1 k (by omega)) (bs e1 (bs ho ?_))
    exact ifn (by simpa using c) (bs (e4 k (by omega)) rfl)
theorem fieldAt62 (m : Int) (x : S23) (l : List S23) (hl : l.length ≤ 1000000) (k : Nat) : impl_FieldAt.f k m (x :: l) 62 = some (x.f0, x.f1, true) := by
  have w1 : wrap64 (62 - 61) = 1 := by unfold wrap64; omega
  have w2 : wrap64 (1 - 1) = 0 := by unfold wrap64; omega
  unfold impl_FieldAt.f
  rw [if_neg (by omega), w1, w2, if_neg (by simp only [List.length_cons]; omega), if_pos (by omega), if_pos (by simp only [List.length_cons]; omega)]
  rfl
theorem FnTables : laws_FnTables.Pure := by
  intro l h1 h2 hw
  obtain ⟨K, m, t, n, v, hd, ht, hs, hn, hv⟩ := drawAdd l (by omega)
  have hS0 := S_small t hs
  have hS1 := S_nonneg t
  have hS : S t ≤ 1000000000 := by omega
  have hto := sTok t m (by omega) hS
  have hti := iTok t m (by omega) hS
  refine ⟨K + 5002, ?_⟩
  unfold laws_FnTables.f
  obtain ⟨b, hb⟩ : ∃ b, laws_big.f l = some b := by unfold laws_big.f; exact ⟨_, rfl⟩
  refine bs hb ?_
  cases b with
  | true => exact ifp rfl rfl
  | false =>
  refine ifn (by decide) (bs (hd _ (by omega)) ?_)
  dsimp only
  by_cases ok : 0 ≤ m ∧ m ≤ 4096 ∧ S t ≤ m
  · rw [decide_eq_true ok] at hto hti
    obtain ⟨x, hx⟩ : ∃ x : S23, x = ⟨n, v⟩ := ⟨_, rfl⟩
    have hx0 : x.f0 = n := by rw [hx]
    have hx1 : x.f1 = v := by rw [hx]
    have hxs : sz x ≤ 5000 := by unfold sz; rw [hx0, hx1]; omega
    have hxp := sz_pos x
    have hSx : S (x :: t) = sz x + S t := rfl
    have hr : ∀ k, 100 ≤ k → impl_AddField.f k m t n v = some (m, impl_AddField.cut m (x :: t)) := fun k hk => by
      unfold impl_AddField.f
      rw [if_pos (by omega), hx]
      exact bs (hti k (by omega)) (ifp rfl rfl)
    obtain ⟨j, hj, hcut, hS2, hS3⟩ := cut_is (x :: t) m (by omega) (by omega)
    simp only [List.length_cons] at hj hS3
    have hjl : ((x :: t).take j).length = j := by rw [List.length_take]; simp only [List.length_cons]; omega
    have hti2 := iTok ((x :: t).take j) m (by omega) (by omega)
    rw [decide_eq_true (by omega : 0 ≤ m ∧ m ≤ 4096 ∧ S ((x :: t).take j) ≤ m)] at hti2
    have hsz := isize ((x :: t).take j) m (by omega) (by omega)
    refine bs (hr _ (by omega)) (bs (hto _ (by omega)) ?_)
    dsimp only
    rw [if_pos rfl, hcut]
    refine bs (hti2 _ (by omega)) ?_
    rw [if_pos rfl]
    refine bs (hsz _ (by omega)) ?_
    rw [if_neg (by omega), if_pos rfl, hjl, w64 (x := (t.length : Int) + 1) (by omega) (by omega), decide_eq_false (by omega : ¬ (j : Int) > (t.length : Int) + 1), laws_FnTables.j0, if_neg (by decide), hjl]
    by_cases c0 : (j : Int) = 0
    · rw [if_pos c0]
      have h3 := hS3 (by omega)
      rw [show j + 1 = 1 by omega] at h3
      have h4 : S ((x :: t).take 1) = sz x + 0 := rfl
      unfold sz at h4 hxs hxp
      rw [hx0, hx1] at h4 hxs hxp
      congr 1
      rw [decide_eq_true_eq, w64 (x := (n.size : Int) + (v.size : Int)) (by omega) (by omega), w64 (by omega) (by omega)]
      omega
    · obtain ⟨i, rfl⟩ : ∃ i, j = i + 1 := ⟨j - 1, by omega⟩
      have hil : (t.take i).length = i := by rw [List.length_take]; omega
      rw [if_neg c0, List.take_succ_cons]
      refine bs (fieldAt62 m x (t.take i) (by omega) _) ?_
      dsimp only
      rw [if_pos rfl, hx0, hx1, if_pos (by simp), if_pos (by omega), w64 (x := ((i + 1 : Nat) : Int) - 1) (by omega) (by omega), if_pos (by omega), if_pos (by omega)]
      rw [show (((i + 1 : Nat) : Int) - 1).toNat = i by omega]
      exact bs (same (t.take i) (by omega) _ (by omega)) rfl
  · rw [decide_eq_false ok] at hto hti
    have hr : ∀ k, 100 ≤ k → impl_AddField.f k m t n v = some (m, t) := fun k hk => by
      unfold impl_AddField.f
      rw [if_pos (by omega)]
      exact bs (hti k (by omega)) (ifn (by decide) rfl)
    refine bs (hr _ (by omega)) (bs (hto _ (by omega)) (ifn (by decide) (bs (hti _ (by omega)) (ifn (by decide) (bs (same t (by omega) _ (by omega)) rfl)))))
end Go.Proofs.YtfcgadokmbooaaaDoor.Pure
