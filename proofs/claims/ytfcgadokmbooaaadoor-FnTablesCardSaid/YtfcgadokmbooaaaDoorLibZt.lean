/- Small laws of numbers and rounds, and the two tests of a range. No condition beyond each theorem's own. The reference's test of a range. No condition. Bit by bit: and, or, xor of small numbers, as natural numbers. Condition: each theorem's own bounds. The draws: what a cursor gives lies in its range, and it stays a cursor. Condition: each theorem's own bounds. How great a table is, and the reference's cut of it. Condition: each theorem's own bounds. For tables: a table that is cut from its end until it fits (the reference) is the one that is cut from its front where the room ends (the program). Condition: each theorem's own bounds. Both tests of a table, and how great it is. Condition: each theorem's own bounds. Drawn fields and tables: how many fields, and how great. Condition: each theorem's own bounds. The law's test whether two rows of fields are the same. Condition: each theorem's own bounds. -/
import Derived.Test.YtfcgadokmbooaaaDoorWMore
import Derived.Laws.BitsLemmas
import Derived.Laws.BitsAllLaws
import Derived.RowKit
import Derived.Test.YtfcgadokmbooaaaDoorAx2
import Derived.Test.YtfcgadokmbooaaaDoorAx6
import Derived.Test.YtfcgadokmbooaaaDoorAx7
import Derived.Test.YtfcgadokmbooaaaDoorAx8
import Derived.Test.YtfcgadokmbooaaaDoorAx9
import Derived.Test.YtfcgadokmbooaaaDoorAx10
import Derived.Test.YtfcgadokmbooaaaDoorAx11
import Derived.Test.YtfcgadokmbooaaaDoorAx12
import Derived.Test.YtfcgadokmbooaaaDoorAx13
import Derived.Test.YtfcgadokmbooaaaDoorAx16
import Derived.Test.YtfcgadokmbooaaaDoorAx17
import Derived.Test.YtfcgadokmbooaaaDoorAx22
import Derived.Test.YtfcgadokmbooaaaDoorAx23
import Derived.Test.YtfcgadokmbooaaaDoorAx24
import Derived.Test.YtfcgadokmbooaaaDoorAx25
set_option linter.unusedVariables false
set_option linter.unusedSimpArgs false
namespace Go.Proofs.YtfcgadokmbooaaaDoor.LibU
open Go.RowKit Go.Proofs.YtfcgadokmbooaaaDoor.A Go.Proofs.YtfcgadokmbooaaaDoorW.PrintWords Go.Proofs.YtfcgadokmbooaaaDoorW.PrintLast Go.Proofs.YtfcgadokmbooaaaDoorW.PrintMore
theorem w64 {x : Int} (h0 : -9223372036854775808 ≤ x) (h1 : x ≤ 9223372036854775807) : wrap64 x = x := by unfold wrap64; omega
theorem u64_nn (x : Int) : 0 ≤ IntKind.u64.wrap x := by
  unfold IntKind.wrap
  simp only [IntKind.signed, IntKind.bits, Bool.false_and]
  simp only [Bool.false_eq_true, if_false]
  omega
theorem ix {k : Nat} (h : 0 < k) : ∃ m, k = m + 1 := ⟨k - 1, by omega⟩
/-- One callee's answer, and what follows. -/
theorem bs {α β : Type} {o : Option α} {a : α} {f : α → Option β} {r : Option β} (h : o = some a) (h' : f a = r) : o.bind f = r := by rw [h]; exact h'
theorem ifp {α : Type} {c : Prop} [Decidable c] {a b r : α} (h : c) (h' : a = r) : (if c then a else b) = r := by rw [if_pos h]; exact h'
theorem ifn {α : Type} {c : Prop} [Decidable c] {a b r : α} (h : ¬ c) (h' : b = r) : (if c then a else b) = r := by rw [if_neg h]; exact h'
theorem rd_nat (l : List Int) (i : Nat) : rd l (i : Int) = l.getD i 0 := by simp [rd]
theorem wf64 {a : Int} (h : (Lit.int .i64 a).wf = true) : -9223372036854775808 ≤ a ∧ a ≤ 9223372036854775807 := by
  simp only [Lit.wf, IntKind.min, IntKind.max, IntKind.signed, IntKind.bits, Bool.and_eq_true, decide_eq_true_eq, if_true] at h
  omega
theorem wf8 {a : Int} (h : (Lit.int .u8 a).wf = true) : 0 ≤ a ∧ a ≤ 255 := by
  simp only [Lit.wf, IntKind.min, IntKind.max, IntKind.signed, IntKind.bits, Bool.and_eq_true, decide_eq_true_eq, if_true, Bool.false_eq_true, if_false] at h
  omega
theorem inRange (a b c : Int) : impl_inRange.f a b c = some (decide (b ≤ a ∧ a ≤ c)) := by
  unfold impl_inRange.f
  by_cases h : a ≥ b
  · rw [if_pos h]; congr 1; simp only [decide_eq_decide]; omega
  · rw [if_neg h]; congr 1; symm; simp only [decide_eq_false_iff_not]; omega
end Go.Proofs.YtfcgadokmbooaaaDoor.LibU
namespace Go.Proofs.YtfcgadokmbooaaaDoor.LibU
open Go.RowKit Go.Proofs.YtfcgadokmbooaaaDoor.A Go.Proofs.YtfcgadokmbooaaaDoorW.PrintWords Go.Proofs.YtfcgadokmbooaaaDoorW.PrintLast Go.Proofs.YtfcgadokmbooaaaDoorW.PrintMore
theorem l1In (a b c : Int) : spec_l1In.f a b c = some (decide (b ≤ a ∧ a ≤ c)) := by
  unfold spec_l1In.f
  by_cases h : a ≥ b
  · rw [if_pos h]; congr 1; simp only [decide_eq_decide]; omega
  · rw [if_neg h]; congr 1; symm; simp only [decide_eq_false_iff_not]; omega
end Go.Proofs.YtfcgadokmbooaaaDoor.LibU
namespace Go.Proofs.YtfcgadokmbooaaaDoor.LibBits
open Go.RowKit
theorem wraps_i64 (n : Int) (h0 : 0 ≤ n) (h1 : n < 2 ^ 63) : IntKind.i64.wrap n = n := by rw [IntKind.wrap_i64]; omega
theorem i64_and (a b : Nat) (ha : a < 2 ^ 63) (hb : b < 2 ^ 63) : Go.bits .and .i64 (a : Int) (b : Int) = ((a &&& b : Nat) : Int) := (bits_nat .i64 63 (by decide) wraps_i64 a b ha hb).1
theorem i64_or (a b : Nat) (ha : a < 2 ^ 63) (hb : b < 2 ^ 63) : Go.bits .or .i64 (a : Int) (b : Int) = ((a ||| b : Nat) : Int) := (bits_nat .i64 63 (by decide) wraps_i64 a b ha hb).2
theorem i64_xor (a b : Nat) (ha : a < 2 ^ 63) (hb : b < 2 ^ 63) : Go.bits .xor .i64 (a : Int) (b : Int) = ((a ^^^ b : Nat) : Int) := by
  have ha' : a % 2 ^ IntKind.i64.bits = a := Nat.mod_eq_of_lt (by simp only [IntKind.bits]; omega)
  have hb' : b % 2 ^ IntKind.i64.bits = b := Nat.mod_eq_of_lt (by simp only [IntKind.bits]; omega)
  simp only [Go.bits, BitVec.ofInt_natCast, BitVec.toNat_xor, BitVec.toNat_ofNat, ha', hb']
  exact wraps_i64 _ (Int.natCast_nonneg _) (by exact_mod_cast Nat.xor_lt_two_pow ha hb)
/-- The low i bits. -/
theorem i64_mask (x : Int) (i : Nat) (hi : i ≤ 63) (h0 : 0 ≤ x) (h1 : x < 2 ^ 63) : Go.bits .and .i64 x (2 ^ i - 1) = x % 2 ^ i := bits_mask .i64 63 (by decide) wraps_i64 i hi x h0 h1
/-- Two numbers side by side. -/
theorem i64_join (i : Nat) (x y : Int) (hx0 : 0 ≤ x) (hx : x % 2 ^ i = 0) (hx1 : x < 2 ^ 63) (hy0 : 0 ≤ y) (hy : y < 2 ^ i) (hy1 : y < 2 ^ 63) : Go.bits .or .i64 x y = x + y := bits_join .i64 63 (by decide) wraps_i64 i x y hx0 hx hx1 hy0 hy hy1
end Go.Proofs.YtfcgadokmbooaaaDoor.LibBits
namespace Go.Proofs.YtfcgadokmbooaaaDoor.LibD
open Go.RowKit Go.Proofs.YtfcgadokmbooaaaDoor.A Go.Proofs.YtfcgadokmbooaaaDoorW.PrintWords Go.Proofs.YtfcgadokmbooaaaDoorW.PrintLast Go.Proofs.YtfcgadokmbooaaaDoorW.PrintMore Go.Proofs.YtfcgadokmbooaaaDoor.LibU Go.Proofs.YtfcgadokmbooaaaDoor.LibBits
/-- A cursor's place. -/
def CI (b : List Int) (i : Int) : Prop := 0 ≤ i ∧ i ≤ b.length ∧ b.length ≤ 140737488351232
theorem and255 (y : Int) : 0 ≤ Go.bits .and .i64 y 255 ∧ Go.bits .and .i64 y 255 ≤ 255 := by
  have e : ((BitVec.ofInt IntKind.i64.bits y &&& BitVec.ofInt IntKind.i64.bits 255).toNat : Nat) ≤ 255 := by
    rw [BitVec.toNat_and]
    have h : (BitVec.ofInt IntKind.i64.bits 255).toNat = 255 := by decide
    rw [h]
    exact Nat.and_le_right
  have h2 : Go.bits .and .i64 y 255 = (((BitVec.ofInt IntKind.i64.bits y &&& BitVec.ofInt IntKind.i64.bits 255).toNat : Nat) : Int) := by
    have e2 : ((BitVec.ofInt IntKind.i64.bits y &&& BitVec.ofInt IntKind.i64.bits 255).toNat : Int) < 2 ^ 63 := by
      have e63 : (2 : Int) ^ 63 = 9223372036854775808 := by decide
      rw [e63]
      omega
    exact wraps_i64 _ (Int.natCast_nonneg _) e2
  rw [h2]
  omega
theorem l1Byte (b : List Int) (i h : Int) (hi : CI b i) : ∃ x i' h', spec_l1Byte.f b i h = some (x, i', h') ∧ 0 ≤ x ∧ x ≤ 255 ∧ CI b i' := by
  unfold CI at *
  unfold spec_l1Byte.f
  by_cases h1 : i < (b.length : Int)
  · rw [if_pos h1, if_pos hi.1]
    refine ⟨_, _, _, rfl, (and255 _).1, (and255 _).2, ?_⟩
    rw [w64 (by omega) (by omega)]
    omega
  · rw [if_neg h1]
    exact ⟨_, _, _, rfl, (and255 _).1, (and255 _).2, hi⟩
theorem l1Below (b : List Int) (i h n : Int) (hn : n ≤ 1000000) (hi : CI b i) : ∃ x i' h', spec_l1Below.f b i h n = some (x, i', h') ∧ 0 ≤ x ∧ (0 < n → x < n) ∧ (n ≤ 0 → x = 0) ∧ CI b i' := by
  unfold spec_l1Below.f
  by_cases h0 : n ≤ 0
  · rw [if_pos h0]
    exact ⟨_, _, _, rfl, by omega, by omega, fun _ => rfl, hi⟩
  · rw [if_neg h0]
    by_cases h1 : n ≤ 256
    · rw [if_pos h1]
      obtain ⟨x, i', h', e, hx0, hx1, hi'⟩ := l1Byte b i h hi
      rw [e]
      simp only [Option.bind_some]
      rw [if_neg (by omega)]
      refine ⟨_, _, _, rfl, ?_, ?_, by omega, hi'⟩
      · rw [Int.tmod_eq_emod_of_nonneg hx0]; exact Int.emod_nonneg _ (by omega)
      · intro _; rw [Int.tmod_eq_emod_of_nonneg hx0]; exact Int.emod_lt_of_pos _ (by omega)
    · rw [if_neg h1]
      obtain ⟨x, i1, q1, e1, hx0, hx1, hi1⟩ := l1Byte b i h hi
      rw [e1]
      simp only [Option.bind_some]
      obtain ⟨y, i2, q2, e2, hy0, hy1, hi2⟩ := l1Byte b i1 q1 hi1
      rw [e2]
      simp only [Option.bind_some]
      obtain ⟨z, i3, q3, e3, hz0, hz1, hi3⟩ := l1Byte b i2 q2 hi2
      rw [e3]
      simp only [Option.bind_some]
      rw [if_neg (by omega), w64 (x := x * 65536) (by omega) (by omega), w64 (x := y * 256) (by omega) (by omega), w64 (x := x * 65536 + y * 256) (by omega) (by omega), w64 (by omega) (by omega)]
      refine ⟨_, _, _, rfl, ?_, ?_, by omega, hi3⟩
      · rw [Int.tmod_eq_emod_of_nonneg (by omega)]; exact Int.emod_nonneg _ (by omega)
      · intro _; rw [Int.tmod_eq_emod_of_nonneg (by omega)]; exact Int.emod_lt_of_pos _ (by omega)
theorem l1New (b : List Int) (hl : b.length ≤ 140737488351232) : ∃ K q, (∀ k, K ≤ k → spec_l1New.f k b = some (b, 0, q)) ∧ CI b 0 := by
  have key : ∀ (d : Nat) (i : Nat) (x : Int), i ≤ b.length → b.length - i = d → ∃ q, ∀ k, d < k → spec_l1New.l0 k b x (i : Int) = some (b, 0, q) := by
    intro d
    induction d with
    | zero =>
      intro i x hi hd
      refine ⟨x, fun k hk => ?_⟩
      obtain ⟨k, rfl⟩ := ix (show 0 < k by omega)
      simp only [spec_l1New.l0]
      rw [if_neg (by omega)]
    | succ d ih =>
      intro i x hi hd
      by_cases h : (i : Int) < 4000
      · obtain ⟨q, hq⟩ := ih (i + 1) (Go.bits .and .i64 (wrap64 ((wrap64 ((wrap64 (x * 137)) + (wrap64 (rd b i)))) + 11)) 1073741823) (by omega) (by omega)
        refine ⟨q, fun k hk => ?_⟩
        obtain ⟨k, rfl⟩ := ix (show 0 < k by omega)
        simp only [spec_l1New.l0]
        rw [if_pos (by omega), if_pos h, if_pos (by omega), w64 (x := (i : Int) + 1) (by omega) (by omega)]
        exact hq k (by omega)
      · refine ⟨x, fun k hk => ?_⟩
        obtain ⟨k, rfl⟩ := ix (show 0 < k by omega)
        simp only [spec_l1New.l0]
        rw [if_pos (by omega), if_neg h]
  obtain ⟨q, hq⟩ := key b.length 0 (wrap64 (369369 + (b.length : Int))) (by omega) (by omega)
  exact ⟨b.length + 1, q, fun k hk => hq k (by omega), by unfold CI; omega⟩
end Go.Proofs.YtfcgadokmbooaaaDoor.LibD
namespace Go.Proofs.YtfcgadokmbooaaaDoor.LibRz
open Go.RowKit Go.Proofs.YtfcgadokmbooaaaDoor.A Go.Proofs.YtfcgadokmbooaaaDoorW.PrintWords Go.Proofs.YtfcgadokmbooaaaDoorW.PrintLast Go.Proofs.YtfcgadokmbooaaaDoorW.PrintMore Go.Proofs.YtfcgadokmbooaaaDoor.LibU
def sz (x : S23) : Int := (x.f0.size : Int) + x.f1.size + 32
def S : List S23 → Int
  | [] => 0
  | x :: l => sz x + S l
theorem sz_pos (x : S23) : 32 ≤ sz x := by unfold sz; omega
theorem S_nonneg : ∀ l, 0 ≤ S l
  | [] => by simp [S]
  | x :: l => by have := S_nonneg l; have := sz_pos x; simp only [S]; omega
theorem S_snoc : ∀ (l : List S23) (x : S23), S (l ++ [x]) = S l + sz x
  | [], x => by simp [S]
  | y :: l, x => by have := S_snoc l x; simp only [List.cons_append, S]; omega
theorem take_snoc (l : List S23) (i : Nat) (h : i < l.length) : l.take (i + 1) = l.take i ++ [l.getD i z23] := by
  rw [List.take_add_one, List.getElem?_eq_getElem h, Option.toList_some, List.getD_eq_getElem?_getD, List.getElem?_eq_getElem h, Option.getD_some]
theorem S_take (l : List S23) (i : Nat) (h : i < l.length) : S (l.take (i + 1)) = S (l.take i) + sz (l.getD i z23) := by
  rw [take_snoc l i h, S_snoc]
theorem S_mono (l : List S23) (i j : Nat) (h : i ≤ j) (hj : j ≤ l.length) : S (l.take i) ≤ S (l.take j) := by
  induction j with
  | zero => rw [show i = 0 by omega]; omega
  | succ j ih =>
    by_cases c : i = j + 1
    · rw [c]; omega
    · have := ih (by omega) (by omega)
      rw [S_take l j (by omega)]
      have := sz_pos (l.getD j z23)
      omega
theorem of_val (x : S23) (h : sz x ≤ 1000000000) : spec_l4Of.f x.f0 x.f1 = some (sz x) := by
  unfold sz at h
  unfold spec_l4Of.f sz
  rw [w64 (x := (x.f0.size : Int) + (x.f1.size : Int)) (by omega) (by omega), w64 (by omega) (by omega)]
theorem size_l (l : List S23) (m : Int) (hl : l.length ≤ 1048580) (hS : S l ≤ 1000000000) (d : Nat) : ∀ (i : Nat), i ≤ l.length → l.length - i = d → ∀ k, d < k → spec_SizeOf.l0 k (S (l.take i)) (i : Int) m l = some (S l) := by
  induction d with
  | zero =>
    intro i hi hd k hk
    obtain ⟨k, rfl⟩ := ix (show 0 < k by omega)
    rw [spec_SizeOf.l0, if_neg (by omega), List.take_of_length_le (by omega)]
  | succ d ih =>
    intro i hi hd k hk
    obtain ⟨k, rfl⟩ := ix (show 0 < k by omega)
    have h1 := S_take l i (by omega)
    have h2 := S_mono l (i + 1) l.length (by omega) (Nat.le_refl _)
    rw [List.take_length] at h2
    have h3 := S_nonneg (l.take i)
    have h4 := sz_pos (l.getD i z23)
    have hrd : rd_T23 l (i : Int) = l.getD i z23 := by unfold rd_T23; rw [Int.toNat_natCast]
    rw [spec_SizeOf.l0, if_pos (by omega), if_pos (by omega), hrd]
    refine bs (of_val _ (by omega)) ?_
    rw [w64 (x := S (l.take i) + sz (l.getD i z23)) (by omega) (by omega), ← h1, w64 (x := (i : Int) + 1) (by omega) (by omega)]
    exact ih (i + 1) (by omega) (by omega) k (by omega)
theorem size (l : List S23) (m : Int) (hl : l.length ≤ 1048580) (hS : S l ≤ 1000000000) : ∀ k, l.length < k → spec_SizeOf.f k m l = some (S l) := by
  intro k hk
  unfold spec_SizeOf.f
  have := size_l l m hl hS l.length 0 (by omega) (by omega) k hk
  exact this
/-- The reference: from the end. -/
theorem fit_l (l : List S23) (m : Int) (hl : l.length ≤ 1048580) (hS : S l ≤ 1000000000) (i : Nat) (hi : i ≤ l.length) (h1 : S (l.take i) ≤ m) (h2 : i < l.length → m < S (l.take (i + 1))) (d : Nat) :
    ∀ (n : Nat), i ≤ n → n ≤ l.length → n - i = d → ∀ k, l.length + d + 1 < k → spec_l4Fit.l0 k m (l.take n) = some (m, l.take i) := by
  induction d with
  | zero =>
    intro n hn hn2 hd k hk
    obtain rfl : n = i := by omega
    obtain ⟨k, rfl⟩ := ix (show 0 < k by omega)
    have hll : (l.take n).length = n := by rw [List.length_take]; omega
    have h3 := S_mono l n l.length hn2 (Nat.le_refl _)
    rw [List.take_length] at h3
    rw [spec_l4Fit.l0]
    refine bs (size (l.take n) m (by omega) (by omega) k (by omega)) ?_
    rw [if_neg (by omega)]
  | succ d ih =>
    intro n hn hn2 hd k hk
    obtain ⟨k, rfl⟩ := ix (show 0 < k by omega)
    have hll : (l.take n).length = n := by rw [List.length_take]; omega
    have h3 := S_mono l n l.length hn2 (Nat.le_refl _)
    rw [List.take_length] at h3
    have h4 := S_mono l (i + 1) n (by omega) hn2
    have h5 := h2 (by omega)
    rw [spec_l4Fit.l0]
    refine bs (size (l.take n) m (by omega) (by omega) k (by omega)) ?_
    have hw : wrap64 (((l.take n).length : Int) - 1) = ((n - 1 : Nat) : Int) := by rw [hll, w64 (by omega) (by omega)]; omega
    rw [if_pos (by omega), hw, if_pos (by omega), if_pos (by rw [hll]; omega), Int.toNat_natCast, List.take_take, show min (n - 1) n = n - 1 by omega]
    exact ih (n - 1) (by omega) (by omega) (by omega) k (by omega)
/-- How many of the first fields fit. -/
theorem fit_at (l : List S23) (m : Int) (hm : 0 ≤ m) (d : Nat) : ∀ (i : Nat), i ≤ l.length → l.length - i = d → S (l.take i) ≤ m →
    ∃ j, j ≤ l.length ∧ S (l.take j) ≤ m ∧ (j < l.length → m < S (l.take (j + 1))) := by
  induction d with
  | zero => intro i hi hd h; exact ⟨i, hi, h, fun h => by omega⟩
  | succ d ih =>
    intro i hi hd h
    by_cases c : S (l.take (i + 1)) ≤ m
    · exact ih (i + 1) (by omega) (by omega) c
    · exact ⟨i, hi, h, fun _ => by omega⟩
theorem fit_any (l : List S23) (m : Int) (hl : l.length ≤ 1048580) (hS : S l ≤ 1000000000) (hm : 0 ≤ m) : ∃ j, j ≤ l.length ∧ S (l.take j) ≤ m ∧ (j < l.length → m < S (l.take (j + 1))) ∧ ∀ k, 2 * l.length + 1 < k → spec_l4Fit.f k m l = some (m, l.take j) := by
  obtain ⟨j, h1, h2, h3⟩ := fit_at l m hm l.length 0 (by omega) (by omega) (by show (0 : Int) ≤ m; omega)
  refine ⟨j, h1, h2, h3, fun k hk => ?_⟩
  have := fit_l l m hl hS j h1 h2 h3 (l.length - j) l.length h1 (Nat.le_refl _) rfl k (by omega)
  rw [List.take_length] at this
  unfold spec_l4Fit.f
  exact this
end Go.Proofs.YtfcgadokmbooaaaDoor.LibRz
namespace Go.Proofs.YtfcgadokmbooaaaDoor.LibRz
open Go.RowKit Go.Proofs.YtfcgadokmbooaaaDoor.A Go.Proofs.YtfcgadokmbooaaaDoorW.PrintWords Go.Proofs.YtfcgadokmbooaaaDoorW.PrintLast Go.Proofs.YtfcgadokmbooaaaDoorW.PrintMore Go.Proofs.YtfcgadokmbooaaaDoor.LibU
/-- The room, as impl_AddField.f counts it. -/
theorem nx_val (room : Int) (x : S23) (h : sz x ≤ 1000000000) (hr : -2000000000 ≤ room ∧ room ≤ 2000000000) : impl_AddField.nx room x = room - sz x := by
  have := sz_pos x
  unfold sz at h this
  unfold impl_AddField.nx sz
  rw [w64 (x := (x.f0.size : Int) + (x.f1.size : Int)) (by omega) (by omega), w64 (x := (x.f0.size : Int) + (x.f1.size : Int) + 32) (by omega) (by omega), w64 (by omega) (by omega)]
/-- The program: from the front. -/
theorem tr_l (l : List S23) (m : Int) (hm : 0 ≤ m ∧ m ≤ 1000000000) (hS : S l ≤ 1000000000) (d : Nat) : ∀ (i : Nat), i ≤ l.length → l.length - i = d → S (l.take i) ≤ m →
    (impl_AddField.tr d (m - S (l.take i)) l i = none ∧ S l ≤ m) ∨ ∃ j, impl_AddField.tr d (m - S (l.take i)) l i = some j ∧ j < l.length ∧ S (l.take j) ≤ m ∧ m < S (l.take (j + 1)) := by
  induction d with
  | zero =>
    intro i hi hd h
    rw [List.take_of_length_le (by omega)] at h
    exact .inl ⟨rfl, h⟩
  | succ d ih =>
    intro i hi hd h
    have h1 := S_take l i (by omega)
    have h2 := S_mono l (i + 1) l.length (by omega) (Nat.le_refl _)
    rw [List.take_length] at h2
    have h3 := S_nonneg (l.take i)
    have h4 := sz_pos (l.getD i z23)
    have hn := nx_val (m - S (l.take i)) (l.getD i z23) (by omega) (by omega)
    have e : m - S (l.take i) - sz (l.getD i z23) = m - S (l.take (i + 1)) := by omega
    rw [impl_AddField.tr, hn, e]
    by_cases c : m - S (l.take (i + 1)) < 0
    · rw [if_pos c]
      exact .inr ⟨i, rfl, by omega, h, by omega⟩
    · rw [if_neg c]
      exact ih (i + 1) (by omega) (by omega) (by omega)
theorem fit_cut (l : List S23) (m : Int) (hl : l.length ≤ 1048580) (hm : 0 ≤ m ∧ m ≤ 1000000000) (hS : S l ≤ 1000000000) : ∀ k, 2 * l.length + 1 < k → spec_l4Fit.f k m l = some (m, impl_AddField.cut m l) := by
  intro k hk
  have h0 := tr_l l m hm hS l.length 0 (by omega) (by omega) (by show (0 : Int) ≤ m; omega)
  have e0 : m - S (l.take 0) = m := by show m - 0 = m; omega
  rw [e0] at h0
  have et : l.take l.length = l := List.take_length
  unfold spec_l4Fit.f impl_AddField.cut
  rcases h0 with ⟨h, hle⟩ | ⟨j, h, hj, h1, h2⟩
  · rw [h]
    have := fit_l l m hl hS l.length (Nat.le_refl _) (by rw [et]; exact hle) (fun h => by omega) 0 l.length (Nat.le_refl _) (Nat.le_refl _) (by omega) k (by omega)
    rw [et] at this
    exact this
  · rw [h]
    have := fit_l l m hl hS j (by omega) h1 (fun _ => h2) (l.length - j) l.length (by omega) (Nat.le_refl _) rfl k (by omega)
    rw [et] at this
    exact this
/-- What the program's cut is. -/
theorem cut_is (l : List S23) (m : Int) (hm : 0 ≤ m ∧ m ≤ 1000000000) (hS : S l ≤ 1000000000) : ∃ j, j ≤ l.length ∧ impl_AddField.cut m l = l.take j ∧ S (l.take j) ≤ m ∧ (j < l.length → m < S (l.take (j + 1))) := by
  have h0 := tr_l l m hm hS l.length 0 (by omega) (by omega) (by show (0 : Int) ≤ m; omega)
  have e0 : m - S (l.take 0) = m := by show m - 0 = m; omega
  rw [e0] at h0
  unfold impl_AddField.cut
  rcases h0 with ⟨h, hle⟩ | ⟨j, h, hj, h1, h2⟩
  · rw [h]
    exact ⟨l.length, Nat.le_refl _, (List.take_length).symm, by rw [List.take_length]; exact hle, fun h => by omega⟩
  · rw [h]
    exact ⟨j, by omega, rfl, h1, fun _ => h2⟩
end Go.Proofs.YtfcgadokmbooaaaDoor.LibRz
namespace Go.Proofs.YtfcgadokmbooaaaDoor.LibRz
open Go.RowKit Go.Proofs.YtfcgadokmbooaaaDoor.A Go.Proofs.YtfcgadokmbooaaaDoorW.PrintWords Go.Proofs.YtfcgadokmbooaaaDoorW.PrintLast Go.Proofs.YtfcgadokmbooaaaDoorW.PrintMore Go.Proofs.YtfcgadokmbooaaaDoor.LibU
theorem szl (l : List S23) (m : Int) (hl : l.length ≤ 1048580) (d : Nat) : ∀ (i : Nat) (x : Int), i ≤ l.length → l.length - i = d →
    ∃ r, (∀ k, d < k → spec_SizeOf.l0 k x (i : Int) m l = some r) ∧ (∀ k, d < k → impl_SizeOf.l0 k x l (l.length : Int) (i : Int) = some r) := by
  induction d with
  | zero =>
    intro i x hi hd
    refine ⟨x, fun k hk => ?_, fun k hk => ?_⟩
    · obtain ⟨k, rfl⟩ := ix (show 0 < k by omega)
      simp only [spec_SizeOf.l0]
      rw [if_neg (by omega)]
    · obtain ⟨k, rfl⟩ := ix (show 0 < k by omega)
      simp only [impl_SizeOf.l0]
      rw [if_neg (by omega)]
  | succ d ih =>
    intro i x hi hd
    obtain ⟨r, h1, h2⟩ := ih (i + 1) (wrap64 (x + wrap64 (wrap64 (((rd_T23 l i).f0.size : Int) + ((rd_T23 l i).f1.size : Int)) + 32))) (by omega) (by omega)
    have e4 : wrap64 ((i : Int) + 1) = ((i + 1 : Nat) : Int) := by rw [w64 (by omega) (by omega)]; rfl
    refine ⟨r, fun k hk => ?_, fun k hk => ?_⟩
    · obtain ⟨k, rfl⟩ := ix (show 0 < k by omega)
      simp only [spec_SizeOf.l0, spec_l4Of.f, Option.bind_some, e4]
      rw [if_pos (by omega), if_pos (by omega)]
      exact h1 k (by omega)
    · obtain ⟨k, rfl⟩ := ix (show 0 < k by omega)
      simp only [impl_SizeOf.l0, impl_sizeOf.f, Option.bind_some, e4]
      rw [if_pos (by omega), if_pos (by omega), if_pos (by omega)]
      exact h2 k (by omega)
theorem size_both (m : Int) (l : List S23) (hl : l.length ≤ 1048580) : ∃ r, (∀ k, l.length < k → spec_SizeOf.f k m l = some r) ∧ (∀ k, l.length < k → impl_SizeOf.f k m l = some r) := szl l m hl l.length 0 0 (by omega) (by omega)
theorem tableOk_both (m : Int) (l : List S23) (hl : l.length ≤ 1048580) : ∃ r, (∀ k, l.length < k → spec_TableOk.f k m l = some r) ∧ (∀ k, l.length < k → impl_TableOk.f k m l = some r) := by
  obtain ⟨q, h1, h2⟩ := size_both m l hl
  by_cases h : 0 ≤ m ∧ m ≤ 4096
  · refine ⟨decide (q ≤ m), fun k hk => ?_, fun k hk => ?_⟩
    · unfold spec_TableOk.f
      refine bs (l1In _ _ _) ?_
      rw [if_pos (by simpa using h)]
      exact bs (h1 k hk) rfl
    · unfold impl_TableOk.f
      refine bs (inRange _ _ _) ?_
      rw [if_pos (by simpa using h)]
      exact bs (h2 k hk) rfl
  · refine ⟨false, fun k hk => ?_, fun k hk => ?_⟩
    · unfold spec_TableOk.f
      refine bs (l1In _ _ _) ?_
      rw [if_neg (by simpa using h)]
    · unfold impl_TableOk.f
      refine bs (inRange _ _ _) ?_
      rw [if_neg (by simpa using h)]
theorem isize (l : List S23) (m : Int) (hl : l.length ≤ 1048580) (hS : S l ≤ 1000000000) : ∀ k, l.length < k → impl_SizeOf.f k m l = some (S l) := by
  obtain ⟨r, h1, h2⟩ := size_both m l hl
  intro k hk
  have := h1 k hk
  rw [size l m hl hS k hk] at this
  rw [h2 k hk, ← this]
theorem sTok (l : List S23) (m : Int) (hl : l.length ≤ 1048580) (hS : S l ≤ 1000000000) : ∀ k, l.length < k → spec_TableOk.f k m l = some (decide (0 ≤ m ∧ m ≤ 4096 ∧ S l ≤ m)) := by
  intro k hk
  unfold spec_TableOk.f
  refine bs (l1In _ _ _) ?_
  by_cases h : 0 ≤ m ∧ m ≤ 4096
  · rw [if_pos (by simpa using h)]
    refine bs (size l m hl hS k hk) ?_
    congr 1
    simp only [decide_eq_decide]
    omega
  · rw [if_neg (by simpa using h)]
    congr 1
    symm
    simp only [decide_eq_false_iff_not]
    omega
theorem iTok (l : List S23) (m : Int) (hl : l.length ≤ 1048580) (hS : S l ≤ 1000000000) : ∀ k, l.length < k → impl_TableOk.f k m l = some (decide (0 ≤ m ∧ m ≤ 4096 ∧ S l ≤ m)) := by
  intro k hk
  unfold impl_TableOk.f
  refine bs (inRange _ _ _) ?_
  by_cases h : 0 ≤ m ∧ m ≤ 4096
  · rw [if_pos (by simpa using h)]
    refine bs (isize l m hl hS k hk) ?_
    congr 1
    simp only [decide_eq_decide]
    omega
  · rw [if_neg (by simpa using h)]
    congr 1
    symm
    simp only [decide_eq_false_iff_not]
    omega
end Go.Proofs.YtfcgadokmbooaaaDoor.LibRz
namespace Go.Proofs.YtfcgadokmbooaaaDoor.LibDt
open Go.RowKit Go.Proofs.YtfcgadokmbooaaaDoor.A Go.Proofs.YtfcgadokmbooaaaDoorW.PrintWords Go.Proofs.YtfcgadokmbooaaaDoorW.PrintLast Go.Proofs.YtfcgadokmbooaaaDoorW.PrintMore Go.Proofs.YtfcgadokmbooaaaDoor.LibU Go.Proofs.YtfcgadokmbooaaaDoor.LibD Go.Proofs.YtfcgadokmbooaaaDoor.LibRz
theorem l1Int (b : List Int) (i h : Int) (l : List Int) (hl : 0 < l.length ∧ l.length ≤ 1000) (hi : CI b i) : ∃ x i' h', spec_l1Int.f b i h l = some (x, i', h') ∧ x ∈ l ∧ CI b i' := by
  unfold spec_l1Int.f
  obtain ⟨x, i', h', e, hx0, hx1, _, hi'⟩ := l1Below b i h l.length (by omega) hi
  rw [e]
  simp only [Option.bind_some]
  have hx := hx1 (by omega)
  rw [if_pos hx0, if_pos hx]
  refine ⟨_, _, _, rfl, ?_, hi'⟩
  unfold rd
  rw [List.getD_eq_getElem?_getD, List.getElem?_eq_getElem (show x.toNat < l.length by omega)]
  exact List.getElem_mem _
theorem l1Str (b : List Int) (i h : Int) (l : List ByteArray) (hl : 0 < l.length ∧ l.length ≤ 1000) (hi : CI b i) : ∃ x i' h', spec_l1Str.f b i h l = some (x, i', h') ∧ x ∈ l ∧ CI b i' := by
  unfold spec_l1Str.f
  obtain ⟨x, i', h', e, hx0, hx1, _, hi'⟩ := l1Below b i h l.length (by omega) hi
  rw [e]
  simp only [Option.bind_some]
  have hx2 := hx1 (by omega)
  obtain ⟨n, rfl⟩ := Int.eq_ofNat_of_zero_le hx0
  have hn : n < l.length := by omega
  rw [if_pos hx0, if_pos (by omega)]
  refine ⟨_, _, _, rfl, ?_, hi'⟩
  have e : rdOf ByteArray.empty l (n : Int) = l[n] := by simp [rdOf, List.getD_eq_getElem?_getD, List.getElem?_eq_getElem hn]
  rw [e]
  exact List.getElem_mem hn
/-- A drawn field is small. -/
def Small (x : S23) : Prop := x.f0.size ≤ 40 ∧ x.f1.size ≤ 40
def names : List ByteArray := ([(⟨#[58, 109, 101, 116, 104, 111, 100]⟩ : ByteArray), (⟨#[58, 112, 97, 116, 104]⟩ : ByteArray), (⟨#[58, 115, 116, 97, 116, 117, 115]⟩ : ByteArray), (⟨#[97, 103, 101]⟩ : ByteArray), (⟨#[120, 45, 97]⟩ : ByteArray), (⟨#[97, 117, 116, 104, 111, 114, 105, 122, 97, 116, 105, 111, 110]⟩ : ByteArray), (⟨#[117, 112, 108, 111, 97, 100, 45, 111, 102, 102, 115, 101, 116]⟩ : ByteArray), (⟨#[99, 111, 111, 107, 105, 101]⟩ : ByteArray)] : List ByteArray)
def vals : List ByteArray := ([(⟨#[71, 69, 84]⟩ : ByteArray), (⟨#[47]⟩ : ByteArray), (⟨#[50, 48, 48]⟩ : ByteArray), (⟨#[]⟩ : ByteArray), (⟨#[55]⟩ : ByteArray), (⟨#[97, 32, 108, 111, 110, 103, 32, 118, 97, 108, 117, 101, 32, 111, 102, 32, 115, 111, 109, 101, 32, 98, 121, 116, 101, 115]⟩ : ByteArray), (⟨#[80, 65, 84, 67, 72]⟩ : ByteArray)] : List ByteArray)
theorem l4Field (b : List Int) (i h : Int) (hi : CI b i) : ∃ n v i' h', spec_l4Field.f b i h = some (n, v, i', h') ∧ Small ⟨n, v⟩ ∧ CI b i' := by
  unfold spec_l4Field.f
  obtain ⟨n, i1, h1, e1, m1, hi1⟩ := l1Str b i h names (by decide) hi
  obtain ⟨v, i2, h2, e2, m2, hi2⟩ := l1Str b i1 h1 vals (by decide) hi1
  refine ⟨n, v, i2, h2, bs e1 (bs e2 rfl), ⟨?_, ?_⟩, hi2⟩
  · show n.size ≤ 40
    simp only [names, List.mem_cons, List.mem_nil_iff, or_false] at m1
    rcases m1 with rfl | rfl | rfl | rfl | rfl | rfl | rfl | rfl <;> decide
  · show v.size ≤ 40
    simp only [vals, List.mem_cons, List.mem_nil_iff, or_false] at m2
    rcases m2 with rfl | rfl | rfl | rfl | rfl | rfl | rfl <;> decide
theorem S_small : ∀ l : List S23, (∀ x ∈ l, Small x) → S l ≤ 112 * l.length
  | [], _ => by simp [S]
  | x :: l, h => by
    have h1 := S_small l (fun y hy => h y (List.mem_cons_of_mem _ hy))
    have h2 := h x List.mem_cons_self
    unfold Small at h2
    simp only [S, sz, List.length_cons]
    omega
theorem l4Add (m : Int) (l : List S23) (n v : ByteArray) (hm : 0 ≤ m) (hl : l.length ≤ 100) (hs : ∀ x ∈ l, Small x) (hx : Small ⟨n, v⟩) : ∃ l', (∀ k, 1000 ≤ k → spec_l4Add.f k m l n v = some (m, l')) ∧ l'.length ≤ l.length + 1 ∧ (∀ x ∈ l', Small x) := by
  have hs' : ∀ x ∈ (⟨n, v⟩ : S23) :: l, Small x := by
    intro x hx'
    rcases List.mem_cons.1 hx' with rfl | hx'
    · exact hx
    · exact hs x hx'
  have hS := S_small _ hs'
  simp only [List.length_cons] at hS
  obtain ⟨j, h1, h2, h3, h4⟩ := fit_any ((⟨n, v⟩ : S23) :: l) m (by simp only [List.length_cons]; omega) (by omega) hm
  refine ⟨((⟨n, v⟩ : S23) :: l).take j, fun k hk => ?_, ?_, fun x hx' => hs' x (List.mem_of_mem_take hx')⟩
  · unfold spec_l4Add.f
    rw [Option.bind_some, if_pos (by simp only [List.length_cons, List.length_nil]; omega)]
    exact bs (h4 k (by simp only [List.length_cons]; omega)) rfl
  · rw [List.length_take]
    simp only [List.length_cons]
    omega
theorem draw_l (b : List Int) (m : Int) (hm : 0 ≤ m) (d : Nat) : ∀ (i h : Int) (l : List S23), CI b i → l.length + d ≤ 50 → (∀ x ∈ l, Small x) →
    ∃ l' i' h', (∀ k, 1000 + d < k → spec_l4Draw.l0 k (d : Int) b i h m l = some (m, l', i', h')) ∧ l'.length ≤ l.length + d ∧ (∀ x ∈ l', Small x) ∧ CI b i' := by
  induction d with
  | zero =>
    intro i h l hi hl hs
    refine ⟨l, i, h, fun k hk => ?_, by omega, hs, hi⟩
    obtain ⟨k, rfl⟩ := ix (show 0 < k by omega)
    simp only [spec_l4Draw.l0]
    rw [if_neg (by omega)]
  | succ d ih =>
    intro i h l hi hl hs
    obtain ⟨n, v, i1, h1, e1, s1, hi1⟩ := l4Field b i h hi
    obtain ⟨l1, a1, a2, a3⟩ := l4Add m l n v hm (by omega) hs s1
    obtain ⟨l2, i2, h2, b1, b2, b3, b4⟩ := ih i1 h1 l1 hi1 (by omega) a3
    refine ⟨l2, i2, h2, fun k hk => ?_, by omega, b3, b4⟩
    obtain ⟨k, rfl⟩ := ix (show 0 < k by omega)
    simp only [spec_l4Draw.l0]
    rw [if_pos (by omega)]
    refine bs e1 (bs (a1 k (by omega)) ?_)
    rw [w64 (by omega) (by omega), show ((d + 1 : Nat) : Int) - 1 = (d : Int) by omega]
    exact b1 k (by omega)
theorem l4Draw (b : List Int) (i h : Int) (hi : CI b i) : ∃ m l i' h', (∀ k, 2000 ≤ k → spec_l4Draw.f k b i h = some (m, l, i', h')) ∧ l.length ≤ 6 ∧ (∀ x ∈ l, Small x) ∧ 0 ≤ m ∧ m ≤ 4096 ∧ CI b i' := by
  unfold spec_l4Draw.f
  obtain ⟨m, i1, h1, e1, m1, hi1⟩ := l1Int b i h [200, 100, 4096, 0, 60] (by decide) hi
  obtain ⟨n, i2, h2, e2, n0, n1, _, hi2⟩ := l1Below b i1 h1 6 (by omega) hi1
  have hm : 0 ≤ m ∧ m ≤ 4096 := by
    simp only [List.mem_cons, List.mem_nil_iff, or_false] at m1
    omega
  have n2 := n1 (by omega)
  obtain ⟨d, rfl⟩ := Int.eq_ofNat_of_zero_le n0
  obtain ⟨l, i3, h3, g1, g2, g3, g4⟩ := draw_l b m hm.1 d i2 h2 [] hi2 (by simp only [List.length_nil]; omega) (by intro x hx; cases hx)
  refine ⟨m, l, i3, h3, fun k hk => bs e1 (bs e2 (g1 k (by omega))), ?_, g3, hm.1, hm.2, g4⟩
  simp only [List.length_nil] at g2
  omega
theorem l4Any (b : List Int) (i h : Int) (hi : CI b i) : ∃ m l i' h', (∀ k, 2000 ≤ k → spec_l4Any.f k b i h = some (m, l, i', h')) ∧ l.length ≤ 8 ∧ (∀ x ∈ l, Small x) ∧ -1 ≤ m ∧ m ≤ 4097 ∧ CI b i' := by
  unfold spec_l4Any.f
  obtain ⟨m, l, i1, h1, e1, hl, hs, hm0, hm1, hi1⟩ := l4Draw b i h hi
  obtain ⟨q, i2, h2, e2, q0, q1, _, hi2⟩ := l1Below b i1 h1 10 (by omega) hi1
  by_cases c0 : q = 0
  · obtain ⟨m', i3, h3, e3, m3, hi3⟩ := l1Int b i2 h2 [(-1), 4097, 10] (by decide) hi2
    have hm : -1 ≤ m' ∧ m' ≤ 4097 := by
      simp only [List.mem_cons, List.mem_nil_iff, or_false] at m3
      omega
    exact ⟨m', l, i3, h3, fun k hk => bs (e1 k hk) (bs e2 (ifp c0 (bs e3 rfl))), by omega, hs, hm.1, hm.2, hi3⟩
  · by_cases c1 : q = 1
    · obtain ⟨n3, v3, i3, h3, e3, s3, hi3⟩ := l4Field b i2 h2 hi2
      obtain ⟨n4, v4, i4, h4, e4, s4, hi4⟩ := l4Field b i3 h3 hi3
      refine ⟨m, l ++ [⟨n3, v3⟩, ⟨n4, v4⟩], i4, h4, fun k hk => bs (e1 k hk) (bs e2 (ifn c0 (ifp c1 (bs e3 (bs e4 (bs rfl (ifp ?_ rfl))))))), ?_, ?_, by omega, by omega, hi4⟩
      · simp only [List.length_cons, List.length_nil]; omega
      · simp only [List.length_append, List.length_cons, List.length_nil]; omega
      · intro x hx
        simp only [List.mem_append, List.mem_cons, List.mem_nil_iff, or_false] at hx
        rcases hx with hx | rfl | rfl
        · exact hs x hx
        · exact s3
        · exact s4
    · exact ⟨m, l, i2, h2, fun k hk => bs (e1 k hk) (bs e2 (ifn c0 (ifn c1 rfl))), by omega, hs, by omega, by omega, hi2⟩
end Go.Proofs.YtfcgadokmbooaaaDoor.LibDt
namespace Go.Proofs.YtfcgadokmbooaaaDoor.LibSm
open Go.RowKit Go.Proofs.YtfcgadokmbooaaaDoor.A Go.Proofs.YtfcgadokmbooaaaDoorW.PrintWords Go.Proofs.YtfcgadokmbooaaaDoorW.PrintLast Go.Proofs.YtfcgadokmbooaaaDoorW.PrintMore Go.Proofs.YtfcgadokmbooaaaDoor.LibU
theorem same_l (l : List S23) (hl : l.length ≤ 1048580) (d : Nat) : ∀ (k : Nat) (i : Nat), i ≤ l.length → l.length - i = d → d < k → laws_sameFields.l0 k l l (i : Int) = some true := by
  induction d with
  | zero =>
    intro k i hi hd hk
    obtain ⟨k, rfl⟩ := ix (show 0 < k by omega)
    simp only [laws_sameFields.l0]
    rw [if_neg (by omega)]
  | succ d ih =>
    intro k i hi hd hk
    obtain ⟨k, rfl⟩ := ix (show 0 < k by omega)
    simp only [laws_sameFields.l0]
    rw [if_pos (by omega), if_pos (by omega), if_pos (by omega), w64 (by omega) (by omega)]
    simp only [beq_self_eq_true, Bool.not_true, Bool.or_self, Bool.false_eq_true, if_false]
    exact ih k (i + 1) (by omega) (by omega) (by omega)
theorem same (l : List S23) (hl : l.length ≤ 1048580) : ∀ k, l.length < k → laws_sameFields.f k l l = some true := by
  intro k hk
  unfold laws_sameFields.f
  rw [if_pos rfl]
  exact same_l l hl l.length k 0 (by omega) (by omega) hk
end Go.Proofs.YtfcgadokmbooaaaDoor.LibSm
