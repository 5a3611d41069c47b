/- For every input: FnParted answers true: the frames that Part makes are each a good one, and Feed puts the block together again. No condition. -/
import Derived.Test.YtlgfcpmihocheaaLibPa
import Derived.Test.YtlgfcpmihocheaaLibD
import Derived.Test.YtlgfcpmihocheaaLibDi
import Derived.Test.YtlgfcpmihocheaaAx0
import Derived.Test.YtlgfcpmihocheaaAx4
import Derived.Test.YtlgfcpmihocheaaAx14
import Derived.Test.YtlgfcpmihocheaaAx18
import Derived.Test.YtlgfcpmihocheaaAx19
import Derived.Test.YtlgfcpmihocheaaAx20
import Derived.Test.YtlgfcpmihocheaaAx21
import Derived.Test.YtlgfcpmihocheaaAx22
import Derived.Test.YtlgfcpmihocheaaAx23
import Derived.Test.YtlgfcpmihocheaaAx24
import Derived.Test.YtlgfcpmihocheaaAx25
import Derived.Test.YtlgfcpmihocheaaAx26
set_option linter.unusedVariables false
set_option linter.unusedSimpArgs false
namespace Go.Proofs.Ytlgfcpmihocheaa.Pure
open Go.RowKit Go.Proofs.Ytlgfcpmihocheaa.A Go.Proofs.YtlgfcpmihocheaaW.PrintWords Go.Proofs.YtlgfcpmihocheaaW.PrintLast Go.Proofs.Ytlgfcpmihocheaa.LibU Go.Proofs.Ytlgfcpmihocheaa.LibPa
theorem clone {l : List Int} (hl : l.length ≤ 100000) : slices_Clone_byte_byte.f l = some l := by
  unfold slices_Clone_byte_byte.f
  simp only [Option.bind_some, List.length_nil, Nat.zero_add, List.nil_append]
  rw [if_pos (by omega)]
theorem inR {a b c : Int} (h : b ≤ a ∧ a ≤ c) : impl_inRange.f a b c = some true := by rw [inRange, decide_eq_true h]
/-- The flags of a frame: the first one bears 'end', the last one bears 'head'. -/
def fv (e last : Bool) : Int := if last then Go.bits .or .i64 (if e then 1 else 0) 4 else (if e then 1 else 0)
theorem fv_range (e last : Bool) : 0 ≤ fv e last ∧ fv e last ≤ 255 := by cases e <;> cases last <;> decide
theorem fv1 (e last : Bool) : ((Go.bits .and .i64 (fv e last) 1) != 0) = e := by cases e <;> cases last <;> decide
theorem fv4 (e last : Bool) : ((Go.bits .and .i64 (fv e last) 4) != 0) = last := by cases e <;> cases last <;> decide
theorem fv8 (e last : Bool) : ((Go.bits .and .i64 (fv e last) 8) != 0) = false := by cases e <;> cases last <;> decide
theorem fv32 (e last : Bool) : ((Go.bits .and .i64 (fv e last) 32) != 0) = false := by cases e <;> cases last <;> decide
theorem frameOk (c : Int) (e last : Bool) (b : List Int) (hc : 0 ≤ c ∧ c ≤ 255) (hb : b.length ≤ 1000) : impl_FrameOk.f c (fv e last) 3 b = some true := by
  unfold impl_FrameOk.f
  refine bs (inR hc) (ifp rfl (bs (inR (fv_range e last)) (ifp rfl (bs (inR (by omega)) (ifp rfl ?_)))))
  rw [decide_eq_true (by omega)]
theorem code1 (e last : Bool) (b : List Int) (hb : b.length ≤ 1000) (k : Nat) (hk : 5 ≤ k) : impl_FrameCode.f k 1 (fv e last) 3 b = some 0 := by
  obtain ⟨k, rfl⟩ : ∃ q, k = q + 1 + 1 + 1 + 1 + 1 := ⟨k - 5, by omega⟩
  unfold impl_FrameCode.f
  refine bs (frameOk 1 e last b (by omega) hb) (ifp rfl (bs (a := true) ?_ ?_))
  · unfold impl_bodyOk.f
    rw [if_neg (by decide), if_neg (by decide), impl_bodyOk.j0, if_neg (by decide), if_neg (by decide), if_neg (by decide), if_neg (by decide)]
  · rw [show (!true) = false from rfl, impl_FrameCode.j0, if_neg (by decide), if_neg (by decide), if_pos rfl, impl_FrameCode.j1, if_pos (by decide), if_neg (by decide)]
theorem code9 (e last : Bool) (b : List Int) (hb : b.length ≤ 1000) (k : Nat) (hk : 5 ≤ k) : impl_FrameCode.f k 9 (fv e last) 3 b = some 0 := by
  obtain ⟨k, rfl⟩ : ∃ q, k = q + 1 + 1 + 1 + 1 + 1 := ⟨k - 5, by omega⟩
  unfold impl_FrameCode.f
  refine bs (frameOk 9 e last b (by omega) hb) (ifp rfl (bs (a := true) ?_ ?_))
  · unfold impl_bodyOk.f
    rw [if_neg (by decide), if_neg (by decide), impl_bodyOk.j0, if_neg (by decide), if_neg (by decide), if_neg (by decide), if_neg (by decide)]
  · rw [show (!true) = false from rfl, impl_FrameCode.j0, if_neg (by decide), if_neg (by decide), if_neg (by decide), if_neg (by decide), if_neg (by decide), if_neg (by decide), impl_FrameCode.j1, if_pos (by decide), if_neg (by decide)]
theorem gok0 : impl_GatherOk.f 0 false [] = some true := by
  unfold impl_GatherOk.f
  rw [if_pos rfl, if_neg (by decide)]
  rfl
theorem gok3 (e : Bool) (l : List Int) (hl : l.length ≤ 3000) : impl_GatherOk.f 3 e l = some true := by
  unfold impl_GatherOk.f
  rw [if_neg (by decide)]
  refine bs (inR (by omega)) (ifp rfl ?_)
  rw [decide_eq_true (by omega)]
theorem unpad1 (e last : Bool) (b : List Int) (hb : b.length ≤ 1000) (k : Nat) (hk : 4 ≤ k) : impl_Unpad.f k 1 (fv e last) 3 b = some (b, true) := by
  obtain ⟨k, rfl⟩ : ∃ q, k = q + 1 + 1 + 1 + 1 := ⟨k - 4, by omega⟩
  have hw : wrap64 ((b.length : Int) - 0) = (b.length : Int) := by unfold wrap64; omega
  unfold impl_Unpad.f
  refine bs (a := false) (by unfold impl_Frame_has.f; rw [fv8]) (ifn (by decide) ?_)
  rw [impl_Unpad.j0, if_pos rfl]
  refine bs (a := false) (by unfold impl_Frame_has.f; rw [fv32]) ?_
  rw [impl_Unpad.j1, if_neg (by decide), impl_Unpad.j2, if_neg (by rw [show wrap64 ((0 : Int) + 0) = 0 from by unfold wrap64; omega]; omega), if_pos (by omega), if_pos (by rw [hw]; omega), if_pos (by rw [hw]; omega), hw]
  rw [show ((b.length : Int)).toNat = b.length by omega, List.take_of_length_le (Nat.le_refl _), show (0 : Int).toNat = 0 from rfl, List.drop_zero]
  exact bs (clone (by omega)) rfl
theorem feed1 (e last : Bool) (b : List Int) (hb : b.length ≤ 1000) (k : Nat) (hk : 10 ≤ k) : impl_Feed.f k 0 false [] 1 (fv e last) 3 b = some (if last then (0, false, [], b, 1) else (3, e, b, [], 0)) := by
  obtain ⟨k, rfl⟩ : ∃ q, k = q + 1 + 1 := ⟨k - 2, by omega⟩
  unfold impl_Feed.f
  refine bs gok0 (ifp rfl (bs (code1 e last b hb _ (by omega)) (ifp rfl (bs (a := true) (by unfold impl_isInOrder.f; rfl) ?_))))
  rw [show (!true) = false from rfl, impl_Feed.j0, if_neg (by decide)]
  refine bs (show impl_copyGather.f 0 false [] = some (0, false, []) from by unfold impl_copyGather.f; exact bs (clone (by simp)) rfl) (ifp rfl (bs (unpad1 e last b hb _ (by omega)) (ifp rfl (bs (show impl_Frame_has.f 1 (fv e last) 3 b 1 = some e from by unfold impl_Frame_has.f; rw [fv1]) ?_))))
  rw [impl_Feed.j1, if_neg (by dsimp only; omega)]
  refine bs (show impl_Frame_has.f 1 (fv e last) 3 b 4 = some last from by unfold impl_Frame_has.f; rw [fv4]) ?_
  cases last <;> rfl
theorem feed9 (e last : Bool) (u b : List Int) (hb : b.length ≤ 1000) (hu : u.length ≤ 1000) (k : Nat) (hk : 10 ≤ k) : impl_Feed.f k 3 e u 9 (fv false last) 3 b = some (if last then (0, false, [], u ++ b, 1) else (3, e, u ++ b, [], 0)) := by
  obtain ⟨k, rfl⟩ : ∃ q, k = q + 1 + 1 := ⟨k - 2, by omega⟩
  unfold impl_Feed.f
  refine bs (gok3 e u (by omega)) (ifp rfl (bs (code9 false last b hb _ (by omega)) (ifp rfl (bs (a := true) (by unfold impl_isInOrder.f; rfl) ?_))))
  rw [show (!true) = false from rfl, impl_Feed.j0, if_neg (by decide)]
  refine bs (show impl_copyGather.f 3 e u = some (3, e, u) from by unfold impl_copyGather.f; exact bs (clone (by omega)) rfl) (ifn (by decide) (ifp rfl (ifp (by dsimp only; omega) ?_)))
  dsimp only
  rw [impl_Feed.j1, if_neg (by rw [List.length_append]; omega)]
  refine bs (show impl_Frame_has.f 9 (fv false last) 3 b 4 = some last from by unfold impl_Frame_has.f; rw [fv4]) ?_
  cases last <;> rfl
theorem same_l (l : List Int) (hl : l.length ≤ 1000000000000) (d : Nat) : ∀ (k : Nat) (i : Nat), i ≤ l.length → l.length - i = d → d < k → laws_sameBytes.l0 k l l (i : Int) = some true := by
  induction d with
  | zero =>
    intro k i hi hd hk
    obtain ⟨k, rfl⟩ := ix (show 0 < k by omega)
    simp only [laws_sameBytes.l0]
    rw [if_neg (by omega)]
  | succ d ih =>
    intro k i hi hd hk
    obtain ⟨k, rfl⟩ := ix (show 0 < k by omega)
    simp only [laws_sameBytes.l0]
    rw [if_pos (by omega), if_pos (by omega), if_pos (by omega), w64 (by omega) (by omega)]
    simp only [if_true]
    exact ih k (i + 1) (by omega) (by omega) (by omega)
theorem same (l : List Int) (hl : l.length ≤ 1000000000000) : ∀ k, l.length < k → laws_sameBytes.f k l l = some true := by
  intro k hk
  unfold laws_sameBytes.f
  rw [if_pos rfl]
  exact same_l l hl l.length k 0 (by omega) (by omega) hk
/-- Frame i of them all. -/
theorem all_get (e : Bool) (l : List Int) (m t i : Nat) (hi : i ≤ t) : rd_T59 (all 3 (if e then 1 else 0) l m t) (i : Int) = ⟨if i = 0 then 1 else 9, fv (if i = 0 then e else false) (decide (i = t)), 3, impl_Part.ch l m i⟩ := by
  unfold rd_T59 all
  rw [Int.toNat_natCast]
  by_cases h : i = t
  · subst h
    rw [getD_snoc _ _ _ _ (by rw [fs_len])]
    rw [decide_eq_true rfl]
    unfold fv
    by_cases h0 : i = 0 <;> simp [h0]
  · rw [List.getD_eq_getElem?_getD, List.getElem?_append_left (by rw [fs_len]; omega), decide_eq_false h]
    unfold fs fr1 fv
    rw [List.getElem?_map, List.getElem?_range (by omega)]
    by_cases h0 : i = 0 <;> simp [h0]
theorem take_ch (l : List Int) (m i : Nat) : l.take (i * m) ++ impl_Part.ch l m i = l.take (i * m + min m (l.length - i * m)) := by
  unfold impl_Part.ch
  have := List.take_append_drop (i * m) (l.take (i * m + min m (l.length - i * m)))
  rw [List.take_take, Nat.min_eq_left (by omega)] at this
  exact this
theorem ar1 {n m t i : Nat} (h2 : n ≤ t * m + m) (hit : i = t) : n ≤ i * m + min m (n - i * m) := by subst hit; omega
theorem ar2 {n m t i : Nat} (h1 : t = 0 ∨ t * m < n) (hi : i ≤ t) (hit : ¬ i = t) : i * m + min m (n - i * m) = (i + 1) * m := by
  have hlt : (i + 1) * m < n := by
    rcases h1 with h | h
    · omega
    · exact Nat.lt_of_le_of_lt (Nat.mul_le_mul_right m (by omega)) h
  have hsm : (i + 1) * m = i * m + m := by rw [Nat.add_mul, Nat.one_mul]
  omega
theorem ar3 {n k : Nat} (hl : n ≤ 1000) (hk : 1990 ≤ k) : n < k + 1 := by omega
theorem loop (e : Bool) (l : List Int) (m t : Nat) (hm : 1 ≤ m) (hm2 : m ≤ 1000) (hl : l.length ≤ 1000) (h1 : t = 0 ∨ t * m < l.length) (h2 : l.length ≤ t * m + m) (d : Nat) :
    ∀ (i k : Nat), i ≤ t → t - i = d → 2000 + 4 * d ≤ k → laws_FnParted.l0 k l e (all 3 (if e then 1 else 0) l m t) (i : Int) (if i = 0 then 0 else 3) (if i = 0 then false else e) (l.take (i * m)) = some true := by
  have hal : (all 3 (if e then 1 else 0) l m t).length = t + 1 := by unfold all; rw [List.length_append, fs_len]; rfl
  have htl : t ≤ l.length := by
    rcases h1 with h | h
    · omega
    · have := Nat.le_mul_of_pos_right t hm; omega
  have step : ∀ (i k : Nat), i ≤ t → 1990 ≤ k → laws_FnParted.l0 (k + 1 + 1 + 1 + 1) l e (all 3 (if e then 1 else 0) l m t) (i : Int) (if i = 0 then 0 else 3) (if i = 0 then false else e) (l.take (i * m)) =
      if i = t then some true else laws_FnParted.l0 k l e (all 3 (if e then 1 else 0) l m t) ((i + 1 : Nat) : Int) 3 e (l.take ((i + 1) * m)) := by
    intro i k hi hk
    have hg := all_get e l m t i hi
    have hcl : (impl_Part.ch l m i).length ≤ 1000 := by rw [ch_len]; omega
    have htk : (l.take (i * m)).length ≤ 1000 := by rw [List.length_take]; omega
    have hw : wrap64 (((t + 1 : Nat) : Int) - 1) = (t : Int) := by unfold wrap64; omega
    have hw1 : wrap64 ((i : Int) + 1) = ((i + 1 : Nat) : Int) := by unfold wrap64; omega
    have hcode : impl_FrameCode.f (k + 1 + 1 + 1) (if i = 0 then 1 else 9) (fv (if i = 0 then e else false) (decide (i = t))) 3 (impl_Part.ch l m i) = some 0 := by
      by_cases h0 : i = 0
      · rw [if_pos h0]; exact code1 _ _ _ hcl _ (by omega)
      · rw [if_neg h0]; exact code9 _ _ _ hcl _ (by omega)
    have hgok : impl_GatherOk.f (if i = 0 then 0 else 3) (if i = 0 then false else e) (l.take (i * m)) = some true := by
      by_cases h0 : i = 0
      · rw [if_pos h0, if_pos h0, h0, Nat.zero_mul, List.take_zero]; exact gok0
      · rw [if_neg h0, if_neg h0]; exact gok3 _ _ (by omega)
    have hfeed : impl_Feed.f (k + 1) (if i = 0 then 0 else 3) (if i = 0 then false else e) (l.take (i * m)) (if i = 0 then 1 else 9) (fv (if i = 0 then e else false) (decide (i = t))) 3 (impl_Part.ch l m i) =
        some (if decide (i = t) then (0, false, [], l.take (i * m + min m (l.length - i * m)), 1) else (3, e, l.take (i * m + min m (l.length - i * m)), [], 0)) := by
      have hc := take_ch l m i
      by_cases h0 : i = 0
      · rw [if_pos h0, if_pos h0, if_pos h0, if_pos h0, h0, Nat.zero_mul, List.take_zero]
        rw [h0, Nat.zero_mul, List.take_zero, List.nil_append] at hc
        rw [← hc]
        exact feed1 e _ _ (by rw [← h0]; exact hcl) _ (by omega)
      · rw [if_neg h0, if_neg h0, if_neg h0, if_neg h0, ← hc]
        exact feed9 e _ _ _ hcl htk _ (by omega)
    have hc1 : (i : Int) < ((all 3 (if e then 1 else 0) l m t).length : Int) := by rw [hal]; exact Int.ofNat_lt.mpr (Nat.lt_succ_of_le hi)
    have hc2 : (0 : Int) ≤ (i : Int) := Int.natCast_nonneg i
    have hwl : wrap64 (((all 3 (if e then 1 else 0) l m t).length : Int) - 1) = (t : Int) := by rw [hal]; exact hw
    obtain ⟨R, hR⟩ : ∃ R, R = (if i = t then some true else laws_FnParted.l0 k l e (all 3 (if e then 1 else 0) l m t) ((i + 1 : Nat) : Int) 3 e (l.take ((i + 1) * m))) := ⟨_, rfl⟩
    rw [← hR]
    obtain ⟨F, hF⟩ : ∃ F, F = all 3 (if e then 1 else 0) l m t := ⟨_, rfl⟩
    rw [← hF] at hg hc1 hwl hR ⊢
    have hj2 : laws_FnParted.j2 (k + 1 + 1) l e F (i : Int) false (if i = 0 then 0 else 3) (if i = 0 then false else e) (l.take (i * m)) = R := by
      rw [laws_FnParted.j2]
      refine ifn (by decide) (ifp hc2 (ifp hc1 ?_))
      rw [hg]
      by_cases hit : i = t
      · have hfull : l.take (i * m + min m (l.length - i * m)) = l := List.take_of_length_le (ar1 h2 hit)
        refine bs (hfeed.trans (congrArg some ((if_pos (decide_eq_true hit)).trans rfl))) ?_
        refine ifp (by rw [hwl, hit]) (ifp rfl ?_)
        dsimp only
        rw [hfull]
        refine bs (same l (Nat.le_trans hl (by decide)) _ (ar3 hl hk)) (ifp rfl ?_)
        rw [hR, if_pos hit]
        rfl
      · have har := ar2 h1 hi hit
        refine bs (hfeed.trans (congrArg some ((if_neg (by rw [decide_eq_false hit]; decide)).trans rfl))) ?_
        refine ifn (by rw [hwl]; exact fun h => hit (Int.ofNat.inj h)) (ifp rfl (ifp rfl (ifn (by simp) ?_)))
        dsimp only
        rw [show ((3 : Int) != 3) = false from rfl, laws_FnParted.j3]
        refine ifn (by decide) ?_
        rw [hw1, har, hR, if_neg hit]
    rw [laws_FnParted.l0]
    refine ifp hc1 (ifp hc2 ?_)
    rw [hg]
    refine bs hcode (ifp rfl (bs hgok ?_))
    rw [show (!true) = false from rfl, laws_FnParted.j1]
    refine ifn (by decide) ?_
    by_cases h0 : i = 0
    · refine ifp (by rw [h0]; rfl) (ifp hc2 (ifp hc1 ?_))
      rw [hg]
      dsimp only
      have hx : ((Go.bits .and .i64 (fv (if i = 0 then e else false) (decide (i = t))) 1 != 0) != e) = false := by rw [fv1, if_pos h0]; simp
      rw [hx]
      exact hj2
    · refine ifn (fun h => h0 (Int.ofNat.inj h)) ?_
      exact hj2
  induction d with
  | zero =>
    intro i k hi hd hk
    obtain ⟨k, rfl⟩ : ∃ q, k = q + 1 + 1 + 1 + 1 := ⟨k - 4, by omega⟩
    rw [step i k hi (by omega), if_pos (show i = t by omega)]
  | succ d ih =>
    intro i k hi hd hk
    obtain ⟨k, rfl⟩ : ∃ q, k = q + 1 + 1 + 1 + 1 := ⟨k - 4, by omega⟩
    rw [step i k hi (by omega), if_neg (show ¬ i = t by omega)]
    have := ih (i + 1) k (by omega) (by omega) (by omega)
    rw [if_neg (show ¬ (i + 1 = 0) by omega), if_neg (show ¬ (i + 1 = 0) by omega)] at this
    exact this
theorem at_some (l : List Int) : ∃ x, laws_at.f l 2 = some x := by
  unfold laws_at.f
  split
  · exact ⟨_, rfl⟩
  · exact ⟨_, rfl⟩
theorem FnParted : laws_FnParted.Pure := by
  intro b hb hb2 hw
  by_cases h : (b.length : Int) > 1048576
  · refine ⟨0, ?_⟩
    unfold laws_FnParted.f laws_big.f
    exact bs rfl (ifp (by rw [decide_eq_true h]) rfl)
  obtain ⟨K1, q, n1, c1⟩ := LibD.l1New b (by omega)
  obtain ⟨x, i2, q2, n2, hx, c2⟩ := LibD.l1Int b 0 q [0, 1, 5, 9, 30] (by simp) c1
  have hx30 : 0 ≤ x ∧ x ≤ 30 := by
    simp only [List.mem_cons, List.not_mem_nil, or_false] at hx
    omega
  obtain ⟨K3, l, i3, q3, n3, _, hl, c3⟩ := LibD.l1Bytes b i2 q2 x (by omega) c2
  obtain ⟨y, i4, q4, n4, hy0, hy1, hy2, c4⟩ := LibD.l1Below b i3 q3 12 (by omega) c3
  obtain ⟨z, hz⟩ := at_some b
  have hll : l.length ≤ 30 := by omega
  obtain ⟨t, m, hm1, hm2, ht1, ht2, hp⟩ := part_impl 3 ((Int.tmod z 2) == 0) l (wrap64 (1 + y)) (by omega) (by omega)
  obtain ⟨K, hK⟩ : ∃ K, K = K1 + K3 + 20000 := ⟨_, rfl⟩
  refine ⟨K, ?_⟩
  have htl : t ≤ l.length := by
    rcases ht1 with h | h
    · omega
    · have := Nat.le_mul_of_pos_right t hm1; omega
  unfold laws_FnParted.f
  refine bs (show laws_big.f b = some false from by unfold laws_big.f; rw [decide_eq_false h]) (ifn (by decide) (bs (a := (l, wrap64 (1 + y))) ?_ (bs hz (bs hp ?_))))
  · unfold spec_DrawBlock.f
    refine bs (n1 _ (by omega)) (bs n2 (bs (n3 _ (by omega)) (bs n4 rfl)))
  · have := loop ((Int.tmod z 2) == 0) l m t hm1 hm2 (by omega) ht1 ht2 t 0 K (by omega) (by omega) (by omega)
    rw [Nat.zero_mul, List.take_zero] at this
    exact this
end Go.Proofs.Ytlgfcpmihocheaa.Pure
