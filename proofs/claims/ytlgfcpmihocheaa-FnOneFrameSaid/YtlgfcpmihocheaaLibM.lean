/- Small laws, the numbers of bytes, frames, draws: for a seat whose claim has few files. Condition: each theorem's own bounds. -/
import Derived.Test.YtlgfcpmihocheaaLibU
import Derived.Test.YtlgfcpmihocheaaLibBits
import Derived.Test.YtlgfcpmihocheaaAx1
import Derived.Test.YtlgfcpmihocheaaAx2
import Derived.Test.YtlgfcpmihocheaaAx3
import Derived.Test.YtlgfcpmihocheaaAx4
import Derived.Test.YtlgfcpmihocheaaAx5
import Derived.Test.YtlgfcpmihocheaaAx6
import Derived.Test.YtlgfcpmihocheaaAx7
import Derived.Test.YtlgfcpmihocheaaAx8
import Derived.Test.YtlgfcpmihocheaaAx11
import Derived.Test.YtlgfcpmihocheaaAx12
import Derived.Test.YtlgfcpmihocheaaAx13
import Derived.Test.YtlgfcpmihocheaaAx14
import Derived.Test.YtlgfcpmihocheaaAx15
import Derived.Test.YtlgfcpmihocheaaAx16
import Derived.Test.YtlgfcpmihocheaaAx19
import Derived.Test.YtlgfcpmihocheaaAx20
set_option linter.unusedVariables false
set_option linter.unusedSimpArgs false
namespace Go.Proofs.Ytlgfcpmihocheaa.LibU
open Go.RowKit Go.Proofs.Ytlgfcpmihocheaa.A Go.Proofs.YtlgfcpmihocheaaW.PrintWords Go.Proofs.YtlgfcpmihocheaaW.PrintLast Go.Proofs.YtlgfcpmihocheaaW.PrintMore
theorem l1In (a b c : Int) : spec_l1In.f a b c = some (decide (b ≤ a ∧ a ≤ c)) := by
  unfold spec_l1In.f
  by_cases h : a ≥ b
  · rw [if_pos h]; congr 1; simp only [decide_eq_decide]; omega
  · rw [if_neg h]; congr 1; symm; simp only [decide_eq_false_iff_not]; omega
end Go.Proofs.Ytlgfcpmihocheaa.LibU
namespace Go.Proofs.Ytlgfcpmihocheaa.LibG
open Go.RowKit Go.Proofs.Ytlgfcpmihocheaa.A Go.Proofs.YtlgfcpmihocheaaW.PrintWords Go.Proofs.YtlgfcpmihocheaaW.PrintLast Go.Proofs.YtlgfcpmihocheaaW.PrintMore Go.Proofs.Ytlgfcpmihocheaa.LibU
def gbStep (n x : Int) : Int := Go.bits .or .i64 (wrap64 (n * 256)) (wrap64 x)
def gbFold (n : Int) (ys : List Int) : Int := ys.foldl gbStep n
def gbOk (l : List Int) (a b : Int) : Prop := 1 ≤ b ∧ b ≤ 7 ∧ 0 ≤ a ∧ a ≤ (l.length : Int) - b
instance (l : List Int) (a b : Int) : Decidable (gbOk l a b) := by unfold gbOk; infer_instance
def gb (l : List Int) (a b : Int) : Int × Bool := if gbOk l a b then (gbFold 0 ((l.take (a + b).toNat).drop a.toNat), true) else (0, false)

theorem cut_get (l : List Int) (a b i : Nat) (hi : i < b) (hl : a + b ≤ l.length) : ((l.take (a + b)).drop a).getD i 0 = l.getD (a + i) 0 := by
  simp only [List.getD_eq_getElem?_getD, List.getElem?_drop, List.getElem?_take]
  rw [if_pos (by omega)]
theorem cut_drop (l : List Int) (a b i : Nat) (hi : i < b) (hl : a + b ≤ l.length) : ((l.take (a + b)).drop a).drop i = l.getD (a + i) 0 :: ((l.take (a + b)).drop a).drop (i + 1) := by
  have hlen : ((l.take (a + b)).drop a).length = b := by simp; omega
  rw [List.drop_eq_getElem_cons (by omega)]
  congr 1
  have := cut_get l a b i hi hl
  rw [List.getD_eq_getElem?_getD, List.getElem?_eq_getElem (by omega)] at this
  exact this

theorem impl_gb_l (y : List Int) (hl : y.length ≤ 140737488351232) (d : Nat) : ∀ (k i : Nat) (n : Int), i ≤ y.length → y.length - i = d → d < k →
    impl_GetBig.l0 k n y (y.length : Int) (i : Int) = some (gbFold n (y.drop i), true) := by
  induction d with
  | zero =>
    intro k i n hi hd hk
    obtain ⟨k, rfl⟩ := ix (show 0 < k by omega)
    simp only [impl_GetBig.l0]
    rw [if_neg (by omega), List.drop_of_length_le (by omega)]
    rfl
  | succ d ih =>
    intro k i n hi hd hk
    obtain ⟨k, rfl⟩ := ix (show 0 < k by omega)
    simp only [impl_GetBig.l0]
    rw [w64 (x := (i : Int) + 1) (by omega) (by omega), if_pos (by omega), if_pos (by omega), if_pos (by omega), List.drop_eq_getElem_cons (by omega)]
    have e : rd y (i : Int) = y[i]'(by omega) := by rw [rd_nat, List.getD_eq_getElem?_getD, List.getElem?_eq_getElem (by omega)]; rfl
    rw [e]
    exact ih k (i + 1) _ (by omega) (by omega) (by omega)

theorem impl_gb {l : List Int} {a b : Int} (hl : l.length ≤ 140737488351232) (ha : -9223372036854775808 ≤ a ∧ a ≤ 9223372036854775807) (hb : -9223372036854775808 ≤ b ∧ b ≤ 9223372036854775807) :
    ∃ K, ∀ k, K ≤ k → impl_GetBig.f k l a b = some (gb l a b) := by
  refine ⟨12, fun k hk => ?_⟩
  obtain ⟨k, rfl⟩ := ix (show 0 < k by omega)
  unfold impl_GetBig.f gb
  rw [inRange]
  simp only [Option.bind_some]
  by_cases h1 : 1 ≤ b ∧ b ≤ 7
  · rw [if_pos (by simpa using h1)]
    rw [w64 (x := (l.length : Int) - b) (by omega) (by omega)]
    by_cases h2 : a < 0
    · rw [if_pos h2, if_neg (by unfold gbOk; omega)]
      simp [impl_GetBig.j0]
    · rw [if_neg h2]
      by_cases h3 : a > (l.length : Int) - b
      · rw [if_neg (by unfold gbOk; omega)]
        simp only [impl_GetBig.j0]
        rw [if_pos (by simpa using h3)]
      · rw [if_pos (by unfold gbOk; omega)]
        simp only [impl_GetBig.j0]
        rw [if_neg (by simpa using h3)]
        obtain ⟨a, rfl⟩ := Int.eq_ofNat_of_zero_le (show 0 ≤ a by omega)
        obtain ⟨b, rfl⟩ := Int.eq_ofNat_of_zero_le (show 0 ≤ b by omega)
        have e : ((a : Int) + (b : Int)).toNat = a + b := by omega
        rw [w64 (x := (a : Int) + (b : Int)) (by omega) (by omega), if_pos (by omega), if_pos (by omega), if_pos (by omega), e]
        simp only [Option.bind_some]
        have hlen : ((l.take (a + b)).drop a).length = b := by simp; omega
        have := impl_gb_l ((l.take (a + b)).drop a) (by omega) b k 0 0 (by omega) (by omega) (by omega)
        simpa using this
  · rw [if_neg (by simpa using h1), if_neg (by unfold gbOk; omega)]
    simp [impl_GetBig.j0]
end Go.Proofs.Ytlgfcpmihocheaa.LibG
namespace Go.Proofs.Ytlgfcpmihocheaa.LibG
open Go.RowKit Go.Proofs.YtlgfcpmihocheaaW.PrintWords Go.Proofs.YtlgfcpmihocheaaW.PrintLast Go.Proofs.Ytlgfcpmihocheaa.LibU Go.Proofs.Ytlgfcpmihocheaa.LibBits
def BytesL (l : List Int) : Prop := ∀ x ∈ l, 0 ≤ x ∧ x ≤ 255
theorem gbStep_eq (n x : Int) (h0 : 0 ≤ n) (h1 : n < 36028797018963968) (hx : 0 ≤ x ∧ x ≤ 255) : gbStep n x = n * 256 + x := by
  unfold gbStep
  have e8 : (2 : Int) ^ 8 = 256 := by decide
  have e63 : (2 : Int) ^ 63 = 9223372036854775808 := by decide
  rw [w64 (x := n * 256) (by omega) (by omega), w64 (x := x) (by omega) (by omega)]
  exact i64_join 8 (n * 256) x (by omega) (by rw [e8]; omega) (by rw [e63]; omega) (by omega) (by rw [e8]; omega) (by rw [e63]; omega)
def val (n : Int) (ys : List Int) : Int := ys.foldl (fun n x => n * 256 + x) n
theorem val_lt (ys : List Int) : ∀ (n : Int), BytesL ys → 0 ≤ n → 0 ≤ val n ys ∧ val n ys < (n + 1) * 256 ^ ys.length := by
  induction ys with
  | nil => intro n _ h; simp [val]; omega
  | cons x ys ih =>
    intro n hb h
    have hx := hb x (List.mem_cons_self)
    obtain ⟨h1, h2⟩ := ih (n * 256 + x) (fun z hz => hb z (List.mem_cons_of_mem _ hz)) (by omega)
    refine ⟨h1, Int.lt_of_lt_of_le h2 ?_⟩
    rw [List.length_cons, Int.pow_succ, Int.mul_comm (256 ^ ys.length) 256, ← Int.mul_assoc]
    exact Int.mul_le_mul_of_nonneg_right (by omega) (Int.pow_nonneg (by omega))
theorem gbFold_eq (ys : List Int) : ∀ (n : Int), BytesL ys → 0 ≤ n → (n + 1) * 256 ^ ys.length ≤ 72057594037927936 → gbFold n ys = val n ys := by
  induction ys with
  | nil => intro n _ _ _; rfl
  | cons x ys ih =>
    intro n hb h0 h1
    have hx := hb x (List.mem_cons_self)
    have hp : (1 : Int) ≤ 256 ^ ys.length := by
      have : (0 : Int) < 256 ^ ys.length := Int.pow_pos (by omega)
      omega
    rw [List.length_cons, Int.pow_succ, Int.mul_comm (256 ^ ys.length) 256, ← Int.mul_assoc] at h1
    have hn : (n + 1) * 256 ≤ 72057594037927936 := by
      have := Int.mul_le_mul_of_nonneg_left hp (show 0 ≤ (n + 1) * 256 by omega)
      omega
    have hs : gbStep n x = n * 256 + x := gbStep_eq n x h0 (by omega) hx
    show gbFold (gbStep n x) ys = val (n * 256 + x) ys
    rw [hs]
    refine ih _ (fun z hz => hb z (List.mem_cons_of_mem _ hz)) (by omega) (Int.le_trans (Int.mul_le_mul_of_nonneg_right (by omega) (by omega)) h1)
theorem bytes_cut {l : List Int} (h : BytesL l) (a b : Nat) : BytesL ((l.take a).drop b) := fun x hx => h x (List.mem_of_mem_take (List.mem_of_mem_drop hx))
/-- A number of three or four bytes lies in its bounds. -/
theorem gb_bounds {l : List Int} {a b : Int} (h : BytesL l) (hb : 1 ≤ b ∧ b ≤ 4) : 0 ≤ (gb l a b).1 ∧ (gb l a b).1 < 4294967296 := by
  unfold gb
  split
  · rename_i hok
    unfold gbOk at hok
    have hlen : ((l.take (a + b).toNat).drop a.toNat).length = b.toNat := by simp; omega
    have hc := bytes_cut h (a + b).toNat a.toNat
    have hp : (256 : Int) ^ ((l.take (a + b).toNat).drop a.toNat).length ≤ 4294967296 := by
      rw [hlen]
      rcases (show b = 1 ∨ b = 2 ∨ b = 3 ∨ b = 4 by omega) with rfl | rfl | rfl | rfl <;> decide
    rw [gbFold_eq _ 0 hc (by omega) (by omega)]
    have := val_lt _ 0 hc (by omega)
    omega
  · simp
end Go.Proofs.Ytlgfcpmihocheaa.LibG
namespace Go.Proofs.Ytlgfcpmihocheaa.LibGF
open Go.RowKit Go.Proofs.Ytlgfcpmihocheaa.A Go.Proofs.YtlgfcpmihocheaaW.PrintWords Go.Proofs.YtlgfcpmihocheaaW.PrintLast Go.Proofs.Ytlgfcpmihocheaa.LibU Go.Proofs.Ytlgfcpmihocheaa.LibG
def gf (l : List Int) (a : Int) : Int × Int × Int × List Int × Int × Int :=
  if a < 0 ∨ a > (l.length : Int) - 9 then (0, 0, 0, [], a, 1)
  else if (gb l a 3).1 > 1000 then (0, 0, 0, [], a, 2)
  else if (gb l a 3).1 > (l.length : Int) - a - 9 then (0, 0, 0, [], a, 1)
  else (wrap64 (rd l (a + 3)), wrap64 (rd l (a + 4)), Go.bits .and .i64 (gb l (a + 5) 4).1 2147483647, (l.take (a + 9 + (gb l a 3).1).toNat).drop (a + 9).toNat, a + 9 + (gb l a 3).1, 0)
theorem cloneF {l : List Int} (hl : l.length ≤ 140737488351232) : slices_Clone_byte_byte.f l = some l := by
  unfold slices_Clone_byte_byte.f
  simp only [Option.bind_some, List.nil_append, List.length_nil, Nat.zero_add]
  rw [if_pos (by omega)]
theorem impl_gf {l : List Int} {a : Int} (hl : l.length ≤ 140737488351232) (hb : BytesL l) (ha : -9223372036854775808 ≤ a ∧ a ≤ 9223372036854775807) : ∃ K, ∀ k, K ≤ k → impl_GetFrame.f k l a = some (gf l a) := by
  obtain ⟨K1, h1⟩ := impl_gb (l := l) (a := a) (b := 3) hl ha (by omega)
  by_cases hr : a < 0 ∨ a > (l.length : Int) - 9
  · refine ⟨1, fun k hk => ?_⟩
    obtain ⟨k, rfl⟩ := ix (show 0 < k by omega)
    unfold impl_GetFrame.f gf
    rw [if_pos hr, w64 (x := (l.length : Int) - 9) (by omega) (by omega)]
    by_cases h0 : a < 0
    · rw [if_pos h0]; simp only [impl_GetFrame.j0]; rw [if_pos trivial]
    · rw [if_neg h0]; simp only [impl_GetFrame.j0]; rw [if_pos (decide_eq_true (by omega))]
  · obtain ⟨K2, h2⟩ := impl_gb (l := l) (a := a + 5) (b := 4) hl (by omega) (by omega)
    refine ⟨K1 + K2 + 1, fun k hk => ?_⟩
    obtain ⟨k, rfl⟩ := ix (show 0 < k by omega)
    have g3 := gb_bounds (l := l) (a := a) (b := 3) hb (by omega)
    unfold impl_GetFrame.f gf
    rw [if_neg hr, w64 (x := (l.length : Int) - 9) (by omega) (by omega), if_neg (by omega)]
    simp only [impl_GetFrame.j0]
    rw [if_neg (by simp; omega)]
    refine bs (h1 k (by omega)) ?_
    rw [w64 (x := a + 5) (by omega) (by omega)]
    refine bs (h2 k (by omega)) ?_
    by_cases c1 : (gb l a 3).1 > 1000
    · rw [if_pos c1, if_pos c1]
    · rw [if_neg c1, if_neg c1, w64 (x := a + 9) (by omega) (by omega), w64 (x := (l.length : Int) - (a + 9)) (by omega) (by omega)]
      by_cases c2 : (gb l a 3).1 > (l.length : Int) - a - 9
      · rw [if_pos (by omega), if_pos c2]
      · rw [if_neg (by omega), if_neg c2, w64 (x := a + 3) (by omega) (by omega), w64 (x := a + 4) (by omega) (by omega), w64 (x := a + 9 + (gb l a 3).1) (by omega) (by omega), if_pos (by omega), if_pos (by omega), if_pos (by omega), if_pos (by omega), if_pos (by omega), if_pos (by omega), if_pos (by omega)]
        exact bs (cloneF (by simp; omega)) rfl
end Go.Proofs.Ytlgfcpmihocheaa.LibGF
namespace Go.Proofs.Ytlgfcpmihocheaa.LibB
open Go.RowKit Go.Proofs.Ytlgfcpmihocheaa.A Go.Proofs.YtlgfcpmihocheaaW.PrintWords Go.Proofs.YtlgfcpmihocheaaW.PrintLast Go.Proofs.YtlgfcpmihocheaaW.PrintMore Go.Proofs.Ytlgfcpmihocheaa.LibU
/-- The bytes of n: k of them, the highest first. -/
def pb (n : Int) : Nat → List Int
  | 0 => []
  | k + 1 => (n / 2 ^ (8 * k)) % 256 :: pb n k
theorem pb_length (n : Int) (k : Nat) : (pb n k).length = k := by induction k with
  | zero => rfl
  | succ k ih => simp [pb, ih]
theorem sh8 (n : Int) (i : Nat) (hi : i ≤ 7) : shr .i64 n (IntKind.u64.wrap (wrap64 (8 * (i : Int)))) = n / 2 ^ (8 * i) := by
  have e : IntKind.u64.wrap (wrap64 (8 * (i : Int))) = ((8 * i : Nat) : Int) := by
    rw [w64 (by omega) (by omega)]
    unfold IntKind.wrap
    simp only [IntKind.signed, IntKind.bits, Bool.false_and, Bool.false_eq_true, if_false]
    omega
  rw [e]
  unfold shr
  have e2 : min ((8 * i : Nat) : Int).toNat IntKind.i64.bits = 8 * i := by
    simp only [IntKind.bits, Int.toNat_natCast]
    omega
  rw [e2]
theorem impl_pb_l (n : Int) (d : Nat) : ∀ (k : Nat) (x : List Int), d ≤ 8 → d < k → x.length + d ≤ 140737488355328 → impl_putBig.l0 k x n ((d : Int) - 1) = some (x ++ pb n d) := by
  induction d with
  | zero =>
    intro k x _ hk _
    obtain ⟨k, rfl⟩ := ix (show 0 < k by omega)
    simp only [impl_putBig.l0]
    rw [if_neg (by omega)]
    simp [pb]
  | succ d ih =>
    intro k x hd hk hx
    obtain ⟨k, rfl⟩ := ix (show 0 < k by omega)
    have e : (((d + 1 : Nat) : Int) - 1) = (d : Int) := by omega
    rw [e]
    simp only [impl_putBig.l0]
    rw [if_pos (by omega), if_pos (u64_nn _), if_pos (by omega), sh8 n d (by omega), w64 (by omega) (by omega), ih k _ (by omega) (by omega) (by simp; omega)]
    simp [pb]
def putBig (l : List Int) (n k : Int) : List Int := if 1 ≤ k ∧ k ≤ 8 then l ++ pb (if n < 0 then 0 else n) k.toNat else l
theorem putBig_length (l : List Int) (n k : Int) : (putBig l n k).length ≤ l.length + 8 := by
  unfold putBig; split
  · rw [List.length_append, pb_length]; omega
  · omega
theorem impl_putBig_l {l : List Int} {n k : Int} (hl : l.length ≤ 140737488351232) (hk : 1 ≤ k ∧ k ≤ 8) : ∀ j, 12 ≤ j → impl_putBig.f j l n k = some (putBig l n k) := by
  intro j hj
  unfold impl_putBig.f putBig
  rw [if_pos hk]
  obtain ⟨k, rfl⟩ := Int.eq_ofNat_of_zero_le (show 0 ≤ k by omega)
  have e : mx n 0 = if n < 0 then 0 else n := by unfold mx; rfl
  rw [e, w64 (by omega) (by omega)]
  exact impl_pb_l _ k j l (by omega) (by omega) (by omega)
end Go.Proofs.Ytlgfcpmihocheaa.LibB
namespace Go.Proofs.Ytlgfcpmihocheaa.LibF0
open Go.RowKit Go.Proofs.Ytlgfcpmihocheaa.A Go.Proofs.YtlgfcpmihocheaaW.PrintWords Go.Proofs.YtlgfcpmihocheaaW.PrintLast Go.Proofs.Ytlgfcpmihocheaa.LibU
def okF (a b c : Int) (l : List Int) : Prop := (0 ≤ a ∧ a ≤ 255) ∧ (0 ≤ b ∧ b ≤ 255) ∧ (0 ≤ c ∧ c ≤ 2147483647) ∧ l.length ≤ 1000
instance (a b c : Int) (l : List Int) : Decidable (okF a b c l) := by unfold okF; infer_instance
theorem impl_frameOk (a b c : Int) (l : List Int) : impl_FrameOk.f a b c l = some (decide (okF a b c l)) := by
  unfold impl_FrameOk.f
  simp only [inRange, Option.bind_some, decide_eq_true_eq]
  unfold okF
  by_cases h1 : 0 ≤ a ∧ a ≤ 255 <;> by_cases h2 : 0 ≤ b ∧ b ≤ 255 <;> by_cases h3 : 0 ≤ c ∧ c ≤ 2147483647 <;> simp [h1, h2, h3] <;> omega
theorem spec_frameOk (a b c : Int) (l : List Int) : spec_FrameOk.f a b c l = some (decide (okF a b c l)) := by
  unfold spec_FrameOk.f
  simp only [l1In, Option.bind_some, decide_eq_true_eq]
  unfold okF
  by_cases h1 : 0 ≤ a ∧ a ≤ 255 <;> by_cases h2 : 0 ≤ b ∧ b ≤ 255 <;> by_cases h3 : 0 ≤ c ∧ c ≤ 2147483647 <;> simp [h1, h2, h3] <;> omega
theorem frameOk (a b c : Int) (l : List Int) : ∃ r, spec_FrameOk.f a b c l = some r ∧ impl_FrameOk.f a b c l = some r := ⟨_, spec_frameOk a b c l, impl_frameOk a b c l⟩
end Go.Proofs.Ytlgfcpmihocheaa.LibF0
namespace Go.Proofs.Ytlgfcpmihocheaa.LibFR
open Go.RowKit Go.Proofs.Ytlgfcpmihocheaa.A Go.Proofs.YtlgfcpmihocheaaW.PrintWords Go.Proofs.YtlgfcpmihocheaaW.PrintLast Go.Proofs.YtlgfcpmihocheaaW.PrintMore Go.Proofs.Ytlgfcpmihocheaa.LibU Go.Proofs.Ytlgfcpmihocheaa.LibF0 Go.Proofs.Ytlgfcpmihocheaa.LibB Go.Proofs.Ytlgfcpmihocheaa.LibG Go.Proofs.Ytlgfcpmihocheaa.LibGF Go.Proofs.Ytlgfcpmihocheaa.LibBits
theorem gb_at (a ys c : List Int) (hb : BytesL ys) (hl : 1 ≤ ys.length ∧ ys.length ≤ 4) : gb (a ++ (ys ++ c)) (a.length : Int) (ys.length : Int) = (val 0 ys, true) := by
  unfold gb
  have hlen : (a ++ (ys ++ c)).length = a.length + (ys.length + c.length) := by simp
  rw [if_pos (by unfold gbOk; omega)]
  have e1 : ((a.length : Int) + (ys.length : Int)).toNat = a.length + ys.length := by omega
  rw [e1, Int.toNat_natCast, List.take_length_add_append, List.drop_left, List.take_left]
  have h256 : ((0 : Int) + 1) * 256 ^ ys.length ≤ 72057594037927936 := by
    obtain ⟨h1, h2⟩ := hl
    have : ys.length = 1 ∨ ys.length = 2 ∨ ys.length = 3 ∨ ys.length = 4 := by omega
    rcases this with e | e | e | e <;> rw [e] <;> decide
  rw [gbFold_eq ys 0 hb (by omega) h256]
theorem rd_at (p q : List Int) (x : Int) : rd (p ++ x :: q) (p.length : Int) = x := by
  rw [rd_nat]; simp [List.getD_eq_getElem?_getD]
theorem pb3 (n : Int) : pb n 3 = [(n / 65536) % 256, (n / 256) % 256, n % 256] := by
  simp [pb]
theorem pb4 (n : Int) : pb n 4 = [(n / 16777216) % 256, (n / 65536) % 256, (n / 256) % 256, n % 256] := by
  simp [pb]
theorem pb3_bytes (n : Int) : BytesL (pb n 3) := by rw [pb3]; intro x hx; simp at hx; omega
theorem pb4_bytes (n : Int) : BytesL (pb n 4) := by rw [pb4]; intro x hx; simp at hx; omega
theorem val3 (n : Int) : val 0 (pb n 3) = n % 16777216 := by
  rw [pb3]; simp only [val, List.foldl_cons, List.foldl_nil]; omega
theorem val4 (n : Int) : val 0 (pb n 4) = n % 4294967296 := by
  rw [pb4]; simp only [val, List.foldl_cons, List.foldl_nil]; omega
def enc (a b c : Int) (l : List Int) : List Int := pb (l.length : Int) 3 ++ (a % 256 :: b % 256 :: (pb c 4 ++ l))
theorem enc_length (a b c : Int) (l : List Int) : (enc a b c l).length = 9 + l.length := by
  unfold enc; simp only [List.length_append, List.length_cons, pb_length]; omega
theorem enc_bytes (a b c : Int) (l : List Int) (h : BytesL l) : BytesL (enc a b c l) := by
  intro x hx
  unfold enc at hx
  simp only [List.mem_append, List.mem_cons] at hx
  rcases hx with hx | hx | hx | hx | hx
  · exact pb3_bytes _ x hx
  · omega
  · omega
  · exact pb4_bytes _ x hx
  · exact h x hx
theorem impl_put {a b c : Int} {l : List Int} (h : okF a b c l) : ∀ k, 12 ≤ k → impl_PutFrame.f k a b c l = some (enc a b c l) := by
  intro k hk
  have hl : l.length ≤ 1000 := h.2.2.2
  have g1 := putBig_length [] (l.length : Int) 3
  have g2 := putBig_length (putBig [] (l.length : Int) 3 ++ [a % 256, b % 256]) c 4
  simp only [List.length_append, List.length_cons, List.length_nil] at g1 g2
  have e1 : putBig (putBig [] (l.length : Int) 3 ++ [a % 256, b % 256]) c 4 ++ l = enc a b c l := by
    unfold putBig enc
    rw [if_pos (by omega), if_pos (by omega), if_neg (by omega), if_neg (show ¬ c < 0 from by have := h.2.2.1; omega)]
    simp
  unfold impl_PutFrame.f impl_putFrame.f
  refine bs (impl_frameOk a b c l) ?_
  rw [if_pos (by simpa using h)]
  refine bs (bs (impl_putBig_l (by simp) (by omega) k hk) ?_) rfl
  simp only [Option.bind_some]
  rw [if_pos (by simp only [List.length_cons, List.length_nil]; omega)]
  refine bs (impl_putBig_l (by simp only [List.length_append, List.length_cons, List.length_nil]; omega) (by omega) k hk) ?_
  rw [if_pos (by omega), e1]
theorem impl_put_no {a b c : Int} {l : List Int} (h : ¬ okF a b c l) : ∀ k, impl_PutFrame.f k a b c l = some [] := by
  intro k
  unfold impl_PutFrame.f
  refine bs (impl_frameOk a b c l) ?_
  rw [if_neg (by simpa using h)]
theorem gf_ok {a b c : Int} {l : List Int} (h : okF a b c l) (pre post : List Int) (hp : pre.length ≤ 1000000000) : gf (pre ++ (enc a b c l ++ post)) (pre.length : Int) = (a, b, c, l, (pre.length : Int) + 9 + l.length, 0) := by
  obtain ⟨ha, hb, hc, hl⟩ := h
  have el := enc_length a b c l
  have eL : (pre ++ (enc a b c l ++ post)).length = pre.length + (9 + l.length + post.length) := by simp only [List.length_append, el]
  have s1 : pre ++ (enc a b c l ++ post) = pre ++ (pb (l.length : Int) 3 ++ (a % 256 :: b % 256 :: (pb c 4 ++ (l ++ post)))) := by simp [enc]
  have s2 : pre ++ (enc a b c l ++ post) = (pre ++ pb (l.length : Int) 3) ++ (a % 256 :: (b % 256 :: (pb c 4 ++ (l ++ post)))) := by simp [enc]
  have s3 : pre ++ (enc a b c l ++ post) = (pre ++ (pb (l.length : Int) 3 ++ [a % 256])) ++ (b % 256 :: (pb c 4 ++ (l ++ post))) := by simp [enc]
  have s4 : pre ++ (enc a b c l ++ post) = (pre ++ (pb (l.length : Int) 3 ++ [a % 256, b % 256])) ++ (pb c 4 ++ (l ++ post)) := by simp [enc]
  have s5 : pre ++ (enc a b c l ++ post) = (pre ++ (pb (l.length : Int) 3 ++ (a % 256 :: b % 256 :: pb c 4))) ++ (l ++ post) := by simp [enc]
  have g3 := gb_at pre (pb (l.length : Int) 3) (a % 256 :: b % 256 :: (pb c 4 ++ (l ++ post))) (pb3_bytes _) (by rw [pb_length]; omega)
  have r3 := rd_at (pre ++ pb (l.length : Int) 3) (b % 256 :: (pb c 4 ++ (l ++ post))) (a % 256)
  have r4 := rd_at (pre ++ (pb (l.length : Int) 3 ++ [a % 256])) (pb c 4 ++ (l ++ post)) (b % 256)
  have g4 := gb_at (pre ++ (pb (l.length : Int) 3 ++ [a % 256, b % 256])) (pb c 4) (l ++ post) (pb4_bytes _) (by rw [pb_length]; omega)
  rw [← s1, val3, pb_length] at g3
  rw [← s2] at r3
  rw [← s3] at r4
  rw [← s4, val4, pb_length] at g4
  have n1 : ((pre ++ pb (l.length : Int) 3).length : Int) = (pre.length : Int) + 3 := by simp [pb_length]
  have n2 : ((pre ++ (pb (l.length : Int) 3 ++ [a % 256])).length : Int) = (pre.length : Int) + 4 := by simp [pb_length]
  have n3 : ((pre ++ (pb (l.length : Int) 3 ++ [a % 256, b % 256])).length : Int) = (pre.length : Int) + 5 := by simp [pb_length]
  have n4 : (pre ++ (pb (l.length : Int) 3 ++ (a % 256 :: b % 256 :: pb c 4))).length = pre.length + 9 := by simp [pb_length]
  rw [n1] at r3
  rw [n2] at r4
  rw [n3] at g4
  have hcut : ((pre ++ (enc a b c l ++ post)).take (pre.length + 9 + l.length)).drop (pre.length + 9) = l := by
    rw [s5, ← n4, List.take_length_add_append, List.drop_left, List.take_left]
  have g3' : gb (pre ++ (enc a b c l ++ post)) (pre.length : Int) 3 = ((l.length : Int), true) := by
    have : (l.length : Int) % 16777216 = l.length := by omega
    rw [← this]; exact g3
  have g4' : gb (pre ++ (enc a b c l ++ post)) ((pre.length : Int) + 5) 4 = (c, true) := by
    have e : c % 4294967296 = c := by omega
    rw [e] at g4
    exact g4
  have hm : Go.bits .and .i64 c 2147483647 = c := by
    have := i64_mask c 31 (by omega) (by omega) (by have e63 : (2 : Int) ^ 63 = 9223372036854775808 := by decide
                                                    rw [e63]; omega)
    rw [show (2 : Int) ^ 31 - 1 = 2147483647 by decide, show (2 : Int) ^ 31 = 2147483648 by decide] at this
    rw [this]; omega
  unfold gf
  rw [if_neg (by omega), g3', g4', r3, r4]
  simp only
  rw [if_neg (by omega), if_neg (by omega), w64 (by omega) (by omega), w64 (by omega) (by omega), hm]
  have e1 : ((pre.length : Int) + 9 + (l.length : Int)).toNat = pre.length + 9 + l.length := by omega
  have e2 : ((pre.length : Int) + 9).toNat = pre.length + 9 := by omega
  rw [e1, e2, hcut, show a % 256 = a by omega, show b % 256 = b by omega]
theorem gf_end (pre t : List Int) (ht : t.length < 9) : gf (pre ++ t) (pre.length : Int) = (0, 0, 0, [], (pre.length : Int), 1) := by
  unfold gf
  rw [if_pos (by rw [List.length_append]; omega)]
theorem gf_short {a b c : Int} {l : List Int} (h : okF a b c l) (pre post : List Int) (r : Nat) (hr : r < 9 + l.length) : gf (pre ++ (enc a b c l ++ post).take r) (pre.length : Int) = (0, 0, 0, [], (pre.length : Int), 1) := by
  obtain ⟨ha, hb, hc, hl⟩ := h
  have el := enc_length a b c l
  have es : ((enc a b c l ++ post).take r).length = r := by rw [List.length_take, List.length_append, el]; omega
  by_cases h9 : r < 9
  · exact gf_end pre _ (by omega)
  · have s1 : (enc a b c l ++ post).take r = pb (l.length : Int) 3 ++ ((a % 256 :: b % 256 :: (pb c 4 ++ (l ++ post))).take (r - 3)) := by
      have : enc a b c l ++ post = pb (l.length : Int) 3 ++ (a % 256 :: b % 256 :: (pb c 4 ++ (l ++ post))) := by simp [enc]
      rw [this, List.take_append, pb_length, List.take_of_length_le (by rw [pb_length]; omega)]
    have g3 := gb_at pre (pb (l.length : Int) 3) ((a % 256 :: b % 256 :: (pb c 4 ++ (l ++ post))).take (r - 3)) (pb3_bytes _) (by rw [pb_length]; omega)
    rw [← s1, val3, pb_length] at g3
    have g3' : gb (pre ++ (enc a b c l ++ post).take r) (pre.length : Int) 3 = ((l.length : Int), true) := by
      have : (l.length : Int) % 16777216 = l.length := by omega
      rw [← this]; exact g3
    unfold gf
    rw [g3']
    simp only
    rw [if_neg (by rw [List.length_append, es]; omega), if_neg (by omega), if_pos (by rw [List.length_append, es]; omega)]
end Go.Proofs.Ytlgfcpmihocheaa.LibFR
namespace Go.Proofs.Ytlgfcpmihocheaa.LibFC
open Go.RowKit Go.Proofs.Ytlgfcpmihocheaa.A Go.Proofs.YtlgfcpmihocheaaW.PrintWords Go.Proofs.YtlgfcpmihocheaaW.PrintLast Go.Proofs.Ytlgfcpmihocheaa.LibU Go.Proofs.Ytlgfcpmihocheaa.LibF0
theorem bodyOk (a b c : Int) (l : List Int) : ∃ r, (∀ k, 2 ≤ k → spec_l6Size.f k a b c l = some r) ∧ (∀ k, 2 ≤ k → impl_bodyOk.f k a b c l = some r) := by
  have h : ∀ k, spec_l6Size.f (k + 1) a b c l = impl_bodyOk.f (k + 1) a b c l ∧ spec_l6Size.f (k + 1) a b c l = spec_l6Size.f 1 a b c l ∧ ∃ r, spec_l6Size.f 1 a b c l = some r := by
    intro k
    unfold spec_l6Size.f impl_bodyOk.f
    simp only [spec_l6Size.j0, impl_bodyOk.j0, impl_Frame_has.f, Option.bind_some]
    by_cases h2 : a = 2
    · simp only [if_pos h2]; exact ⟨trivial, trivial, _, rfl⟩
    · simp only [if_neg h2]
      by_cases h3 : a = 3
      · subst h3; exact ⟨by first | trivial | rfl, by first | trivial | rfl, _, rfl⟩
      · simp only [if_neg h3]
        by_cases h8 : a = 8
        · subst h8; exact ⟨by first | trivial | rfl, by first | trivial | rfl, _, rfl⟩
        · have e8 : (a == 8) = false := beq_eq_false_iff_ne.2 h8
          simp only [e8, Bool.false_eq_true, if_false]
          by_cases h6 : a = 6
          · subst h6; exact ⟨by first | trivial | rfl, by first | trivial | rfl, _, rfl⟩
          · simp only [if_neg h6]
            by_cases h7 : a = 7
            · subst h7; exact ⟨by first | trivial | rfl, by first | trivial | rfl, _, rfl⟩
            · simp only [if_neg h7]
              by_cases h4 : a = 4
              · simp only [if_pos h4]
                by_cases hm : Int.tmod (l.length : Int) 6 = 0
                · simp only [if_pos hm]
                  by_cases ha : Go.bits .and .i64 b 1 = 0
                  · simp only [if_pos ha]
                    by_cases hl : (l.length : Int) = 0
                    · simp only [if_pos hl]; exact ⟨trivial, trivial, _, rfl⟩
                    · simp only [if_neg hl]; exact ⟨by rw [ha]; rfl, trivial, _, rfl⟩
                  · simp only [if_neg ha]
                    by_cases hl : (l.length : Int) = 0
                    · simp only [if_pos hl]; exact ⟨by rw [hl]; rfl, trivial, _, rfl⟩
                    · simp only [if_neg hl]
                      refine ⟨?_, trivial, _, rfl⟩
                      have e1 : ((l.length : Int) == 0) = false := beq_eq_false_iff_ne.2 hl
                      have e2 : (Go.bits .and .i64 b 1 != 0) = true := bne_iff_ne.2 ha
                      rw [e1, e2]; rfl
                · simp only [if_neg hm]; exact ⟨trivial, trivial, _, rfl⟩
              · simp only [if_neg h4]; exact ⟨trivial, trivial, _, rfl⟩
  obtain ⟨_, _, r, hr⟩ := h 0
  refine ⟨r, fun k hk => ?_, fun k hk => ?_⟩
  · obtain ⟨k, rfl⟩ := ix (show 0 < k by omega)
    rw [(h k).2.1, hr]
  · obtain ⟨k, rfl⟩ := ix (show 0 < k by omega)
    rw [← (h k).1, (h k).2.1, hr]
theorem j2_eq (k : Nat) (x : Bool) (a b c : Int) (l : List Int) : impl_FrameCode.j2 k x a b c l = spec_FrameCode.j2 k x a b c l := by cases k <;> rfl
theorem j1_eq (k : Nat) (x : Int) (y : Bool) (a b c : Int) (l : List Int) : impl_FrameCode.j1 k x y a b c l = spec_FrameCode.j1 k x y a b c l := by
  cases k with
  | zero => rfl
  | succ k => simp only [impl_FrameCode.j1, spec_FrameCode.j1, j2_eq]
theorem j0_eq (k : Nat) (y : Bool) (a b c : Int) (l : List Int) : impl_FrameCode.j0 k y a b c l = spec_FrameCode.j0 k y a b c l := by
  cases k with
  | zero => rfl
  | succ k => simp only [impl_FrameCode.j0, spec_FrameCode.j0, j1_eq]
theorem j2_some (k : Nat) (x : Bool) (a b c : Int) (l : List Int) : ∃ r, spec_FrameCode.j2 (k + 1) x a b c l = some r := by
  simp only [spec_FrameCode.j2]
  repeat' split
  all_goals exact ⟨_, rfl⟩
theorem j1_some (k : Nat) (x : Int) (y : Bool) (a b c : Int) (l : List Int) : ∃ r, spec_FrameCode.j1 (k + 1 + 1) x y a b c l = some r := by
  simp only [spec_FrameCode.j1]
  repeat' split
  all_goals first | exact j2_some _ _ _ _ _ _ | exact ⟨_, rfl⟩
theorem j0_some (k : Nat) (y : Bool) (a b c : Int) (l : List Int) : ∃ r, spec_FrameCode.j0 (k + 1 + 1 + 1) y a b c l = some r := by
  simp only [spec_FrameCode.j0]
  repeat' split
  all_goals first | exact j1_some _ _ _ _ _ _ _ | exact ⟨_, rfl⟩
theorem frameCode_both (a b c : Int) (l : List Int) : ∃ r, (∀ k, 4 ≤ k → spec_FrameCode.f k a b c l = some r) ∧ (∀ k, 4 ≤ k → impl_FrameCode.f k a b c l = some r) := by
  obtain ⟨q, hq, hq'⟩ := frameOk a b c l
  obtain ⟨s, hs, hs'⟩ := bodyOk a b c l
  have hi : ∀ k, 4 ≤ k → impl_FrameCode.f k a b c l = spec_FrameCode.f k a b c l := by
    intro k hk
    unfold spec_FrameCode.f impl_FrameCode.f
    rw [hq, hq', hs k (by omega), hs' k (by omega)]
    simp only [Option.bind_some, j0_eq]
  have h4 : ∃ r, spec_FrameCode.f 4 a b c l = some r := by
    unfold spec_FrameCode.f
    rw [hq, hs 4 (by omega)]
    simp only [Option.bind_some]
    split
    · exact j0_some 1 _ _ _ _ _
    · exact j0_some 1 _ _ _ _ _
  obtain ⟨r, hr⟩ := h4
  have hm : ∀ k, 4 ≤ k → spec_FrameCode.f k a b c l = some r := fun k hk => at_rounds (g := fun k => spec_FrameCode.f k a b c l) (fun k => spec_FrameCode.mono _ _ _ _ k) hk hr
  exact ⟨r, hm, fun k hk => (hi k hk).trans (hm k hk)⟩
end Go.Proofs.Ytlgfcpmihocheaa.LibFC
namespace Go.Proofs.Ytlgfcpmihocheaa.LibD
open Go.RowKit Go.Proofs.Ytlgfcpmihocheaa.A Go.Proofs.YtlgfcpmihocheaaW.PrintWords Go.Proofs.YtlgfcpmihocheaaW.PrintLast Go.Proofs.YtlgfcpmihocheaaW.PrintMore Go.Proofs.Ytlgfcpmihocheaa.LibU Go.Proofs.Ytlgfcpmihocheaa.LibBits
/-- A cursor's place. -/
def CI (b : List Int) (i : Int) : Prop := 0 ≤ i ∧ i ≤ b.length ∧ b.length ≤ 140737488351232
theorem and255 (y : Int) : 0 ≤ Go.bits .and .i64 y 255 ∧ Go.bits .and .i64 y 255 ≤ 255 := by
  have e : ((BitVec.ofInt IntKind.i64.bits y &&& BitVec.ofInt IntKind.i64.bits 255).toNat : Nat) ≤ 255 := by
    rw [BitVec.toNat_and]
    have h : (BitVec.ofInt IntKind.i64.bits 255).toNat = 255 := by decide
    rw [h]
    exact Nat.and_le_right
  have h2 : Go.bits .and .i64 y 255 = (((BitVec.ofInt IntKind.i64.bits y &&& BitVec.ofInt IntKind.i64.bits 255).toNat : Nat) : Int) := by
    have e2 : ((BitVec.ofInt IntKind.i64.bits y &&& BitVec.ofInt IntKind.i64.bits 255).toNat : Int) < 2 ^ 63 := by
      have e63 : (2 : Int) ^ 63 = 9223372036854775808 := by decide
      rw [e63]
      omega
    exact wraps_i64 _ (Int.natCast_nonneg _) e2
  rw [h2]
  omega
theorem l1Byte (b : List Int) (i h : Int) (hi : CI b i) : ∃ x i' h', spec_l1Byte.f b i h = some (x, i', h') ∧ 0 ≤ x ∧ x ≤ 255 ∧ CI b i' := by
  unfold CI at *
  unfold spec_l1Byte.f
  by_cases h1 : i < (b.length : Int)
  · rw [if_pos h1, if_pos hi.1]
    refine ⟨_, _, _, rfl, (and255 _).1, (and255 _).2, ?_⟩
    rw [w64 (by omega) (by omega)]
    omega
  · rw [if_neg h1]
    exact ⟨_, _, _, rfl, (and255 _).1, (and255 _).2, hi⟩
theorem l1Below (b : List Int) (i h n : Int) (hn : n ≤ 1000000) (hi : CI b i) : ∃ x i' h', spec_l1Below.f b i h n = some (x, i', h') ∧ 0 ≤ x ∧ (0 < n → x < n) ∧ (n ≤ 0 → x = 0) ∧ CI b i' := by
  unfold spec_l1Below.f
  by_cases h0 : n ≤ 0
  · rw [if_pos h0]
    exact ⟨_, _, _, rfl, by omega, by omega, fun _ => rfl, hi⟩
  · rw [if_neg h0]
    by_cases h1 : n ≤ 256
    · rw [if_pos h1]
      obtain ⟨x, i', h', e, hx0, hx1, hi'⟩ := l1Byte b i h hi
      rw [e]
      simp only [Option.bind_some]
      rw [if_neg (by omega)]
      refine ⟨_, _, _, rfl, ?_, ?_, by omega, hi'⟩
      · rw [Int.tmod_eq_emod_of_nonneg hx0]; exact Int.emod_nonneg _ (by omega)
      · intro _; rw [Int.tmod_eq_emod_of_nonneg hx0]; exact Int.emod_lt_of_pos _ (by omega)
    · rw [if_neg h1]
      obtain ⟨x, i1, q1, e1, hx0, hx1, hi1⟩ := l1Byte b i h hi
      rw [e1]
      simp only [Option.bind_some]
      obtain ⟨y, i2, q2, e2, hy0, hy1, hi2⟩ := l1Byte b i1 q1 hi1
      rw [e2]
      simp only [Option.bind_some]
      obtain ⟨z, i3, q3, e3, hz0, hz1, hi3⟩ := l1Byte b i2 q2 hi2
      rw [e3]
      simp only [Option.bind_some]
      rw [if_neg (by omega), w64 (x := x * 65536) (by omega) (by omega), w64 (x := y * 256) (by omega) (by omega), w64 (x := x * 65536 + y * 256) (by omega) (by omega), w64 (by omega) (by omega)]
      refine ⟨_, _, _, rfl, ?_, ?_, by omega, hi3⟩
      · rw [Int.tmod_eq_emod_of_nonneg (by omega)]; exact Int.emod_nonneg _ (by omega)
      · intro _; rw [Int.tmod_eq_emod_of_nonneg (by omega)]; exact Int.emod_lt_of_pos _ (by omega)
theorem l1New (b : List Int) (hl : b.length ≤ 140737488351232) : ∃ K q, (∀ k, K ≤ k → spec_l1New.f k b = some (b, 0, q)) ∧ CI b 0 := by
  have key : ∀ (d : Nat) (i : Nat) (x : Int), i ≤ b.length → b.length - i = d → ∃ q, ∀ k, d < k → spec_l1New.l0 k b x (i : Int) = some (b, 0, q) := by
    intro d
    induction d with
    | zero =>
      intro i x hi hd
      refine ⟨x, fun k hk => ?_⟩
      obtain ⟨k, rfl⟩ := ix (show 0 < k by omega)
      simp only [spec_l1New.l0]
      rw [if_neg (by omega)]
    | succ d ih =>
      intro i x hi hd
      by_cases h : (i : Int) < 4000
      · obtain ⟨q, hq⟩ := ih (i + 1) (Go.bits .and .i64 (wrap64 ((wrap64 ((wrap64 (x * 137)) + (wrap64 (rd b i)))) + 11)) 1073741823) (by omega) (by omega)
        refine ⟨q, fun k hk => ?_⟩
        obtain ⟨k, rfl⟩ := ix (show 0 < k by omega)
        simp only [spec_l1New.l0]
        rw [if_pos (by omega), if_pos h, if_pos (by omega), w64 (x := (i : Int) + 1) (by omega) (by omega)]
        exact hq k (by omega)
      · refine ⟨x, fun k hk => ?_⟩
        obtain ⟨k, rfl⟩ := ix (show 0 < k by omega)
        simp only [spec_l1New.l0]
        rw [if_pos (by omega), if_neg h]
  obtain ⟨q, hq⟩ := key b.length 0 (wrap64 (369369 + (b.length : Int))) (by omega) (by omega)
  exact ⟨b.length + 1, q, fun k hk => hq k (by omega), by unfold CI; omega⟩
end Go.Proofs.Ytlgfcpmihocheaa.LibD
namespace Go.Proofs.Ytlgfcpmihocheaa.LibD
open Go.RowKit Go.Proofs.Ytlgfcpmihocheaa.A Go.Proofs.YtlgfcpmihocheaaW.PrintWords Go.Proofs.YtlgfcpmihocheaaW.PrintLast Go.Proofs.YtlgfcpmihocheaaW.PrintMore Go.Proofs.Ytlgfcpmihocheaa.LibU Go.Proofs.Ytlgfcpmihocheaa.LibBits
theorem l1Int (b : List Int) (i h : Int) (l : List Int) (hl : 0 < l.length ∧ l.length ≤ 1000) (hi : CI b i) : ∃ x i' h', spec_l1Int.f b i h l = some (x, i', h') ∧ x ∈ l ∧ CI b i' := by
  unfold spec_l1Int.f
  obtain ⟨x, i', h', e, hx0, hx1, _, hi'⟩ := l1Below b i h l.length (by omega) hi
  rw [e]
  simp only [Option.bind_some]
  have hx := hx1 (by omega)
  rw [if_pos hx0, if_pos hx]
  refine ⟨_, _, _, rfl, ?_, hi'⟩
  unfold rd
  rw [List.getD_eq_getElem?_getD, List.getElem?_eq_getElem (show x.toNat < l.length by omega)]
  exact List.getElem_mem _
def Bytes (l : List Int) : Prop := ∀ x ∈ l, 0 ≤ x ∧ x ≤ 255
theorem l1Bytes (b : List Int) (i h n : Int) (hn : n ≤ 1000000) (hi : CI b i) : ∃ K l i' h', (∀ k, K ≤ k → spec_l1Bytes.f k b i h n = some (l, i', h')) ∧ Bytes l ∧ (l.length : Int) = max n 0 ∧ CI b i' := by
  have key : ∀ (d : Nat) (j : Nat) (x : List Int) (i h : Int), CI b i → Bytes x → x.length = j → n.toNat - j = d → (j : Int) ≤ max n 0 → ∃ l i' h', (∀ k, d < k → spec_l1Bytes.l0 k n x (j : Int) b i h = some (l, i', h')) ∧ Bytes l ∧ (l.length : Int) = max n 0 ∧ CI b i' := by
    intro d
    induction d with
    | zero =>
      intro j x i h hi hx hj hd hjn
      refine ⟨x, i, h, fun k hk => ?_, hx, by omega, hi⟩
      obtain ⟨k, rfl⟩ := ix (show 0 < k by omega)
      simp only [spec_l1Bytes.l0]
      rw [if_neg (by omega)]
    | succ d ih =>
      intro j x i h hi hx hj hd hjn
      obtain ⟨y, i1, q1, e1, hy0, hy1, hi1⟩ := l1Byte b i h hi
      obtain ⟨l, i', h', e, hl, hln, hi'⟩ := ih (j + 1) (x ++ [y % 256]) i1 q1 hi1 (by
        intro z hz
        rcases List.mem_append.1 hz with hz | hz
        · exact hx z hz
        · rw [List.mem_singleton.1 hz]; omega) (by simp [hj]) (by omega) (by omega)
      refine ⟨l, i', h', fun k hk => ?_, hl, hln, hi'⟩
      obtain ⟨k, rfl⟩ := ix (show 0 < k by omega)
      simp only [spec_l1Bytes.l0]
      rw [if_pos (by omega), e1]
      simp only [Option.bind_some]
      rw [if_pos (by omega), w64 (x := (j : Int) + 1) (by omega) (by omega)]
      exact e k (by omega)
  obtain ⟨l, i', h', e, h1, h2, h3⟩ := key n.toNat 0 [] i h hi (by intro x hx; cases hx) rfl (by omega) (by omega)
  exact ⟨n.toNat + 1, l, i', h', fun k hk => e k (by omega), h1, h2, h3⟩
end Go.Proofs.Ytlgfcpmihocheaa.LibD
namespace Go.Proofs.Ytlgfcpmihocheaa.LibDF
open Go.RowKit Go.Proofs.Ytlgfcpmihocheaa.A Go.Proofs.YtlgfcpmihocheaaW.PrintWords Go.Proofs.YtlgfcpmihocheaaW.PrintLast Go.Proofs.YtlgfcpmihocheaaW.PrintMore Go.Proofs.Ytlgfcpmihocheaa.LibU Go.Proofs.Ytlgfcpmihocheaa.LibD Go.Proofs.Ytlgfcpmihocheaa.LibF0
def Good (F : Nat → Option (Int × Int × Int × List Int × Int × Int)) (b : List Int) : Prop := ∃ K a f c l i' h', (∀ k, K ≤ k → F k = some (a, f, c, l, i', h')) ∧ okF a f c l ∧ Bytes l ∧ l.length ≤ 100 ∧ CI b i'
theorem good_up {F G : Nat → Option (Int × Int × Int × List Int × Int × Int)} {b : List Int} (h : Good F b) (e : ∀ k, G (k + 1) = F k) : Good G b := by
  obtain ⟨K, a, f, c, l, i', h', h1, h2⟩ := h
  refine ⟨K + 1, a, f, c, l, i', h', fun k hk => ?_, h2⟩
  obtain ⟨k, rfl⟩ := ix (show 0 < k by omega)
  rw [e]
  exact h1 k (by omega)
theorem g_j4 (b : List Int) (i h n a f c : Int) (t : Bool) (hi : CI b i) (hn : 0 ≤ n ∧ n ≤ 100) (ha : 0 ≤ a ∧ a ≤ 255) (hf : 0 ≤ f ∧ f ≤ 255) (hc : 0 ≤ c ∧ c ≤ 255) : Good (fun k => spec_l6Frame.j4 k n t b i h a f c) b := by
  refine good_up (F := fun k => if t = true then ((spec_l1Int.f b i h (([0, 0, 0, 0, 1] : List Int))).bind fun bt978 => ((spec_l1Bytes.f k b bt978.2.1 bt978.2.2 n).bind fun bt981 => (some (a, f, bt978.1, bt981.1, bt981.2.1, bt981.2.2)))) else ((spec_l1Bytes.f k b i h n).bind fun bt986 => (some (a, f, c, bt986.1, bt986.2.1, bt986.2.2)))) ?_ (fun k => rfl)
  by_cases ht : t = true
  · obtain ⟨s, i1, q1, e1, hs, hi1⟩ := l1Int b i h [0, 0, 0, 0, 1] (by decide) hi
    have hs' : s = 0 ∨ s = 1 := by simp at hs; omega
    obtain ⟨K, l, i2, q2, e2, hl, hlen, hi2⟩ := l1Bytes b i1 q1 n (by omega) hi1
    refine ⟨K, a, f, s, l, i2, q2, fun k hk => ?_, ⟨ha, hf, by omega, by omega⟩, hl, by omega, hi2⟩
    simp only
    rw [if_pos ht]
    exact bs e1 (bs (e2 k hk) rfl)
  · obtain ⟨K, l, i2, q2, e2, hl, hlen, hi2⟩ := l1Bytes b i h n (by omega) hi
    refine ⟨K, a, f, c, l, i2, q2, fun k hk => ?_, ⟨ha, hf, by omega, by omega⟩, hl, by omega, hi2⟩
    simp only
    rw [if_neg ht]
    exact bs (e2 k hk) rfl
theorem g_j3 (b : List Int) (i h n a f c : Int) (hi : CI b i) (hn : 0 ≤ n ∧ n ≤ 100) (ha : 0 ≤ a ∧ a ≤ 255) (hf : 0 ≤ f ∧ f ≤ 255) (hc : 0 ≤ c ∧ c ≤ 255) : Good (fun k => spec_l6Frame.j3 k n b i h a f c) b := by
  by_cases t : 6 ≤ a ∧ a ≤ 7
  · refine good_up (g_j4 b i h n a f c true hi hn ha hf hc) (fun k => ?_)
    simp only [spec_l6Frame.j3]
    refine bs (l1In a 6 7) ?_
    rw [if_pos (by simpa using t)]
  · refine good_up (g_j4 b i h n a f c (a == 4) hi hn ha hf hc) (fun k => ?_)
    simp only [spec_l6Frame.j3]
    refine bs (l1In a 6 7) ?_
    rw [if_neg (by simpa using t)]
theorem g_j2 (b : List Int) (i h n a f c : Int) (hi : CI b i) (hn : 0 ≤ n ∧ n ≤ 90) (ha : 0 ≤ a ∧ a ≤ 255) (hf : 0 ≤ f ∧ f ≤ 255) (hc : 0 ≤ c ∧ c ≤ 255) : Good (fun k => spec_l6Frame.j2 k n b i h a f c) b := by
  obtain ⟨o, i1, q1, e1, _, _, _, hi1⟩ := l1Below b i h 8 (by omega) hi
  have e2 : spec_l1Once.f b i h 8 = some (o == 0, i1, q1) := by
    unfold spec_l1Once.f
    exact bs e1 rfl
  by_cases t : (o == 0) = true
  · refine good_up (g_j3 b i1 q1 (n + 1) a f c hi1 (by omega) ha hf hc) (fun k => ?_)
    simp only [spec_l6Frame.j2]
    refine bs e2 ?_
    rw [if_pos t, w64 (by omega) (by omega)]
  · refine good_up (g_j3 b i1 q1 n a f c hi1 (by omega) ha hf hc) (fun k => ?_)
    simp only [spec_l6Frame.j2]
    refine bs e2 ?_
    rw [if_neg t]
theorem g_j1 (b : List Int) (i h n s a f c : Int) (t : Bool) (hi : CI b i) (hn : 0 ≤ n ∧ n ≤ 90) (ha : 0 ≤ a ∧ a ≤ 255) (hf : 0 ≤ f ∧ f ≤ 255) (hc : 0 ≤ c ∧ c ≤ 255) : Good (fun k => spec_l6Frame.j1 k n s t b i h a f c) b := by
  by_cases ht : t = true
  · refine good_up (g_j2 b i h 8 a f c hi (by omega) ha hf hc) (fun k => ?_)
    simp only [spec_l6Frame.j1]
    rw [if_pos ht]
  · by_cases h4 : s = 4
    · obtain ⟨o, i1, q1, e1, ho0, ho1, _, hi1⟩ := l1Below b i h 3 (by omega) hi
      have ho := ho1 (by omega)
      by_cases hb : Go.bits .and .i64 f 1 = 1
      · refine good_up (g_j2 b i1 q1 0 a f c hi1 (by omega) ha hf hc) (fun k => ?_)
        simp only [spec_l6Frame.j1]
        rw [if_neg ht, if_pos h4]
        refine bs e1 ?_
        rw [if_pos hb]
      · refine good_up (g_j2 b i1 q1 (6 * o) a f c hi1 (by omega) ha hf hc) (fun k => ?_)
        simp only [spec_l6Frame.j1]
        rw [if_neg ht, if_pos h4]
        refine bs e1 ?_
        rw [if_neg hb, w64 (by omega) (by omega)]
    · refine good_up (g_j2 b i h n a f c hi (by omega) ha hf hc) (fun k => ?_)
      simp only [spec_l6Frame.j1]
      rw [if_neg ht, if_neg h4]
theorem g_j0 (b : List Int) (i h n s a f c : Int) (t : Bool) (hi : CI b i) (hn : 0 ≤ n ∧ n ≤ 90) (ha : 0 ≤ a ∧ a ≤ 255) (hf : 0 ≤ f ∧ f ≤ 255) (hc : 0 ≤ c ∧ c ≤ 255) : Good (fun k => spec_l6Frame.j0 k n s t b i h a f c) b := by
  by_cases ht : t = true
  · refine good_up (g_j2 b i h 4 a f c hi (by omega) ha hf hc) (fun k => ?_)
    simp only [spec_l6Frame.j0]
    rw [if_pos ht]
  · by_cases h6 : s = 6
    · refine good_up (g_j1 b i h n s a f c (s == 6) hi (by omega) ha hf hc) (fun k => ?_)
      simp only [spec_l6Frame.j0]
      rw [if_neg ht, if_pos h6]
    · refine good_up (g_j1 b i h n s a f c (s == 7) hi (by omega) ha hf hc) (fun k => ?_)
      simp only [spec_l6Frame.j0]
      rw [if_neg ht, if_neg h6]
theorem g_frame (b : List Int) (i h : Int) (hi : CI b i) : Good (fun k => spec_l6Frame.f k b i h) b := by
  obtain ⟨a, i1, q1, e1, ha0, ha1, _, hi1⟩ := l1Below b i h 11 (by omega) hi
  have ha := ha1 (by omega)
  obtain ⟨f, i2, q2, e2, hf, hi2⟩ := l1Int b i1 q1 [0, 1, 4, 5, 8, 12, 32, 44] (by decide) hi1
  have hf' : f = 0 ∨ f = 1 ∨ f = 4 ∨ f = 5 ∨ f = 8 ∨ f = 12 ∨ f = 32 ∨ f = 44 := by simpa using hf
  obtain ⟨c, i3, q3, e3, hc, hi3⟩ := l1Int b i2 q2 [1, 1, 3, 0, 5] (by decide) hi2
  have hc' : c = 1 ∨ c = 3 ∨ c = 0 ∨ c = 5 := by simp at hc; omega
  obtain ⟨n, i4, q4, e4, hn, hi4⟩ := l1Int b i3 q3 [0, 1, 4, 5, 6, 8, 12] (by decide) hi3
  have hn' : n = 0 ∨ n = 1 ∨ n = 4 ∨ n = 5 ∨ n = 6 ∨ n = 8 ∨ n = 12 := by simpa using hn
  have ev : ∀ k r, (if a = 2 then (spec_l6Frame.j2 k 5 b i4 q4 a f c) else (if a = 3 then (spec_l6Frame.j0 k n a (a == 3) b i4 q4 a f c) else (spec_l6Frame.j0 k n a (a == 8) b i4 q4 a f c))) = r → spec_l6Frame.f k b i h = r := by
    intro k r hr
    unfold spec_l6Frame.f
    exact bs e1 (bs e2 (bs e3 (bs e4 hr)))
  by_cases h2 : a = 2
  · obtain ⟨K, x1, x2, x3, x4, x5, x6, g1, g2⟩ := g_j2 b i4 q4 5 a f c hi4 (by omega) (by omega) (by omega) (by omega)
    exact ⟨K, x1, x2, x3, x4, x5, x6, fun k hk => ev k _ (by rw [if_pos h2]; exact g1 k hk), g2⟩
  · by_cases h3 : a = 3
    · obtain ⟨K, x1, x2, x3, x4, x5, x6, g1, g2⟩ := g_j0 b i4 q4 n a a f c (a == 3) hi4 (by omega) (by omega) (by omega) (by omega)
      exact ⟨K, x1, x2, x3, x4, x5, x6, fun k hk => ev k _ (by rw [if_neg h2, if_pos h3]; exact g1 k hk), g2⟩
    · obtain ⟨K, x1, x2, x3, x4, x5, x6, g1, g2⟩ := g_j0 b i4 q4 n a a f c (a == 8) hi4 (by omega) (by omega) (by omega) (by omega)
      exact ⟨K, x1, x2, x3, x4, x5, x6, fun k hk => ev k _ (by rw [if_neg h2, if_neg h3]; exact g1 k hk), g2⟩
end Go.Proofs.Ytlgfcpmihocheaa.LibDF
