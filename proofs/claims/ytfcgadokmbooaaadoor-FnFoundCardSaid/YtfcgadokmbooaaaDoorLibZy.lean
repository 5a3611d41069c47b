/- Small laws of numbers and rounds, and the two tests of a range. No condition beyond each theorem's own. Bit by bit: and, or, xor of small numbers, as natural numbers. Condition: each theorem's own bounds. The draws: what a cursor gives lies in its range, and it stays a cursor. Condition: each theorem's own bounds. How great a table is, and the reference's cut of it. Condition: each theorem's own bounds. Drawn fields and tables: how many fields, and how great. Condition: each theorem's own bounds. The first fields: the program's, cut out of one text, are the reference's. Condition: each theorem's own bounds. FindField: the program's and the reference's tell the same; what is found; a field at its number. Condition: each theorem's own bounds. -/
import Derived.Test.YtfcgadokmbooaaaDoorWMore
import Derived.Laws.BitsLemmas
import Derived.Laws.BitsAllLaws
import Derived.RowKit
import Derived.KernelRfl
import Derived.Lib.Split
import Derived.Test.YtfcgadokmbooaaaDoorAx2
import Derived.Test.YtfcgadokmbooaaaDoorAx3
import Derived.Test.YtfcgadokmbooaaaDoorAx4
import Derived.Test.YtfcgadokmbooaaaDoorAx5
import Derived.Test.YtfcgadokmbooaaaDoorAx6
import Derived.Test.YtfcgadokmbooaaaDoorAx7
import Derived.Test.YtfcgadokmbooaaaDoorAx8
import Derived.Test.YtfcgadokmbooaaaDoorAx9
import Derived.Test.YtfcgadokmbooaaaDoorAx11
import Derived.Test.YtfcgadokmbooaaaDoorAx12
import Derived.Test.YtfcgadokmbooaaaDoorAx13
import Derived.Test.YtfcgadokmbooaaaDoorAx14
import Derived.Test.YtfcgadokmbooaaaDoorAx15
import Derived.Test.YtfcgadokmbooaaaDoorAx16
import Derived.Test.YtfcgadokmbooaaaDoorAx17
import Derived.Test.YtfcgadokmbooaaaDoorAx18
set_option linter.unusedVariables false
set_option linter.unusedSimpArgs false
namespace Go.Proofs.YtfcgadokmbooaaaDoor.LibU
open Go.RowKit Go.Proofs.YtfcgadokmbooaaaDoor.A Go.Proofs.YtfcgadokmbooaaaDoorW.PrintWords Go.Proofs.YtfcgadokmbooaaaDoorW.PrintLast Go.Proofs.YtfcgadokmbooaaaDoorW.PrintMore
theorem w64 {x : Int} (h0 : -9223372036854775808 ≤ x) (h1 : x ≤ 9223372036854775807) : wrap64 x = x := by unfold wrap64; omega
theorem u64_nn (x : Int) : 0 ≤ IntKind.u64.wrap x := by
  unfold IntKind.wrap
  simp only [IntKind.signed, IntKind.bits, Bool.false_and]
  simp only [Bool.false_eq_true, if_false]
  omega
theorem ix {k : Nat} (h : 0 < k) : ∃ m, k = m + 1 := ⟨k - 1, by omega⟩
/-- One callee's answer, and what follows. -/
theorem bs {α β : Type} {o : Option α} {a : α} {f : α → Option β} {r : Option β} (h : o = some a) (h' : f a = r) : o.bind f = r := by rw [h]; exact h'
theorem ifp {α : Type} {c : Prop} [Decidable c] {a b r : α} (h : c) (h' : a = r) : (if c then a else b) = r := by rw [if_pos h]; exact h'
theorem ifn {α : Type} {c : Prop} [Decidable c] {a b r : α} (h : ¬ c) (h' : b = r) : (if c then a else b) = r := by rw [if_neg h]; exact h'
theorem rd_nat (l : List Int) (i : Nat) : rd l (i : Int) = l.getD i 0 := by simp [rd]
theorem wf64 {a : Int} (h : (Lit.int .i64 a).wf = true) : -9223372036854775808 ≤ a ∧ a ≤ 9223372036854775807 := by
  simp only [Lit.wf, IntKind.min, IntKind.max, IntKind.signed, IntKind.bits, Bool.and_eq_true, decide_eq_true_eq, if_true] at h
  omega
theorem wf8 {a : Int} (h : (Lit.int .u8 a).wf = true) : 0 ≤ a ∧ a ≤ 255 := by
  simp only [Lit.wf, IntKind.min, IntKind.max, IntKind.signed, IntKind.bits, Bool.and_eq_true, decide_eq_true_eq, if_true, Bool.false_eq_true, if_false] at h
  omega
theorem inRange (a b c : Int) : impl_inRange.f a b c = some (decide (b ≤ a ∧ a ≤ c)) := by
  unfold impl_inRange.f
  by_cases h : a ≥ b
  · rw [if_pos h]; congr 1; simp only [decide_eq_decide]; omega
  · rw [if_neg h]; congr 1; symm; simp only [decide_eq_false_iff_not]; omega
end Go.Proofs.YtfcgadokmbooaaaDoor.LibU
namespace Go.Proofs.YtfcgadokmbooaaaDoor.LibBits
open Go.RowKit
theorem wraps_i64 (n : Int) (h0 : 0 ≤ n) (h1 : n < 2 ^ 63) : IntKind.i64.wrap n = n := by rw [IntKind.wrap_i64]; omega
theorem i64_and (a b : Nat) (ha : a < 2 ^ 63) (hb : b < 2 ^ 63) : Go.bits .and .i64 (a : Int) (b : Int) = ((a &&& b : Nat) : Int) := (bits_nat .i64 63 (by decide) wraps_i64 a b ha hb).1
theorem i64_or (a b : Nat) (ha : a < 2 ^ 63) (hb : b < 2 ^ 63) : Go.bits .or .i64 (a : Int) (b : Int) = ((a ||| b : Nat) : Int) := (bits_nat .i64 63 (by decide) wraps_i64 a b ha hb).2
theorem i64_xor (a b : Nat) (ha : a < 2 ^ 63) (hb : b < 2 ^ 63) : Go.bits .xor .i64 (a : Int) (b : Int) = ((a ^^^ b : Nat) : Int) := by
  have ha' : a % 2 ^ IntKind.i64.bits = a := Nat.mod_eq_of_lt (by simp only [IntKind.bits]; omega)
  have hb' : b % 2 ^ IntKind.i64.bits = b := Nat.mod_eq_of_lt (by simp only [IntKind.bits]; omega)
  simp only [Go.bits, BitVec.ofInt_natCast, BitVec.toNat_xor, BitVec.toNat_ofNat, ha', hb']
  exact wraps_i64 _ (Int.natCast_nonneg _) (by exact_mod_cast Nat.xor_lt_two_pow ha hb)
/-- The low i bits. -/
theorem i64_mask (x : Int) (i : Nat) (hi : i ≤ 63) (h0 : 0 ≤ x) (h1 : x < 2 ^ 63) : Go.bits .and .i64 x (2 ^ i - 1) = x % 2 ^ i := bits_mask .i64 63 (by decide) wraps_i64 i hi x h0 h1
/-- Two numbers side by side. -/
theorem i64_join (i : Nat) (x y : Int) (hx0 : 0 ≤ x) (hx : x % 2 ^ i = 0) (hx1 : x < 2 ^ 63) (hy0 : 0 ≤ y) (hy : y < 2 ^ i) (hy1 : y < 2 ^ 63) : Go.bits .or .i64 x y = x + y := bits_join .i64 63 (by decide) wraps_i64 i x y hx0 hx hx1 hy0 hy hy1
end Go.Proofs.YtfcgadokmbooaaaDoor.LibBits
namespace Go.Proofs.YtfcgadokmbooaaaDoor.LibD
open Go.RowKit Go.Proofs.YtfcgadokmbooaaaDoor.A Go.Proofs.YtfcgadokmbooaaaDoorW.PrintWords Go.Proofs.YtfcgadokmbooaaaDoorW.PrintLast Go.Proofs.YtfcgadokmbooaaaDoorW.PrintMore Go.Proofs.YtfcgadokmbooaaaDoor.LibU Go.Proofs.YtfcgadokmbooaaaDoor.LibBits
/-- A cursor's place. -/
def CI (b : List Int) (i : Int) : Prop := 0 ≤ i ∧ i ≤ b.length ∧ b.length ≤ 140737488351232
theorem and255 (y : Int) : 0 ≤ Go.bits .and .i64 y 255 ∧ Go.bits .and .i64 y 255 ≤ 255 := by
  have e : ((BitVec.ofInt IntKind.i64.bits y &&& BitVec.ofInt IntKind.i64.bits 255).toNat : Nat) ≤ 255 := by
    rw [BitVec.toNat_and]
    have h : (BitVec.ofInt IntKind.i64.bits 255).toNat = 255 := by decide
    rw [h]
    exact Nat.and_le_right
  have h2 : Go.bits .and .i64 y 255 = (((BitVec.ofInt IntKind.i64.bits y &&& BitVec.ofInt IntKind.i64.bits 255).toNat : Nat) : Int) := by
    have e2 : ((BitVec.ofInt IntKind.i64.bits y &&& BitVec.ofInt IntKind.i64.bits 255).toNat : Int) < 2 ^ 63 := by
      have e63 : (2 : Int) ^ 63 = 9223372036854775808 := by decide
      rw [e63]
      omega
    exact wraps_i64 _ (Int.natCast_nonneg _) e2
  rw [h2]
  omega
theorem l1Byte (b : List Int) (i h : Int) (hi : CI b i) : ∃ x i' h', spec_l1Byte.f b i h = some (x, i', h') ∧ 0 ≤ x ∧ x ≤ 255 ∧ CI b i' := by
  unfold CI at *
  unfold spec_l1Byte.f
  by_cases h1 : i < (b.length : Int)
  · rw [if_pos h1, if_pos hi.1]
    refine ⟨_, _, _, rfl, (and255 _).1, (and255 _).2, ?_⟩
    rw [w64 (by omega) (by omega)]
    omega
  · rw [if_neg h1]
    exact ⟨_, _, _, rfl, (and255 _).1, (and255 _).2, hi⟩
theorem l1Below (b : List Int) (i h n : Int) (hn : n ≤ 1000000) (hi : CI b i) : ∃ x i' h', spec_l1Below.f b i h n = some (x, i', h') ∧ 0 ≤ x ∧ (0 < n → x < n) ∧ (n ≤ 0 → x = 0) ∧ CI b i' := by
  unfold spec_l1Below.f
  by_cases h0 : n ≤ 0
  · rw [if_pos h0]
    exact ⟨_, _, _, rfl, by omega, by omega, fun _ => rfl, hi⟩
  · rw [if_neg h0]
    by_cases h1 : n ≤ 256
    · rw [if_pos h1]
      obtain ⟨x, i', h', e, hx0, hx1, hi'⟩ := l1Byte b i h hi
      rw [e]
      simp only [Option.bind_some]
      rw [if_neg (by omega)]
      refine ⟨_, _, _, rfl, ?_, ?_, by omega, hi'⟩
      · rw [Int.tmod_eq_emod_of_nonneg hx0]; exact Int.emod_nonneg _ (by omega)
      · intro _; rw [Int.tmod_eq_emod_of_nonneg hx0]; exact Int.emod_lt_of_pos _ (by omega)
    · rw [if_neg h1]
      obtain ⟨x, i1, q1, e1, hx0, hx1, hi1⟩ := l1Byte b i h hi
      rw [e1]
      simp only [Option.bind_some]
      obtain ⟨y, i2, q2, e2, hy0, hy1, hi2⟩ := l1Byte b i1 q1 hi1
      rw [e2]
      simp only [Option.bind_some]
      obtain ⟨z, i3, q3, e3, hz0, hz1, hi3⟩ := l1Byte b i2 q2 hi2
      rw [e3]
      simp only [Option.bind_some]
      rw [if_neg (by omega), w64 (x := x * 65536) (by omega) (by omega), w64 (x := y * 256) (by omega) (by omega), w64 (x := x * 65536 + y * 256) (by omega) (by omega), w64 (by omega) (by omega)]
      refine ⟨_, _, _, rfl, ?_, ?_, by omega, hi3⟩
      · rw [Int.tmod_eq_emod_of_nonneg (by omega)]; exact Int.emod_nonneg _ (by omega)
      · intro _; rw [Int.tmod_eq_emod_of_nonneg (by omega)]; exact Int.emod_lt_of_pos _ (by omega)
theorem l1New (b : List Int) (hl : b.length ≤ 140737488351232) : ∃ K q, (∀ k, K ≤ k → spec_l1New.f k b = some (b, 0, q)) ∧ CI b 0 := by
  have key : ∀ (d : Nat) (i : Nat) (x : Int), i ≤ b.length → b.length - i = d → ∃ q, ∀ k, d < k → spec_l1New.l0 k b x (i : Int) = some (b, 0, q) := by
    intro d
    induction d with
    | zero =>
      intro i x hi hd
      refine ⟨x, fun k hk => ?_⟩
      obtain ⟨k, rfl⟩ := ix (show 0 < k by omega)
      simp only [spec_l1New.l0]
      rw [if_neg (by omega)]
    | succ d ih =>
      intro i x hi hd
      by_cases h : (i : Int) < 4000
      · obtain ⟨q, hq⟩ := ih (i + 1) (Go.bits .and .i64 (wrap64 ((wrap64 ((wrap64 (x * 137)) + (wrap64 (rd b i)))) + 11)) 1073741823) (by omega) (by omega)
        refine ⟨q, fun k hk => ?_⟩
        obtain ⟨k, rfl⟩ := ix (show 0 < k by omega)
        simp only [spec_l1New.l0]
        rw [if_pos (by omega), if_pos h, if_pos (by omega), w64 (x := (i : Int) + 1) (by omega) (by omega)]
        exact hq k (by omega)
      · refine ⟨x, fun k hk => ?_⟩
        obtain ⟨k, rfl⟩ := ix (show 0 < k by omega)
        simp only [spec_l1New.l0]
        rw [if_pos (by omega), if_neg h]
  obtain ⟨q, hq⟩ := key b.length 0 (wrap64 (369369 + (b.length : Int))) (by omega) (by omega)
  exact ⟨b.length + 1, q, fun k hk => hq k (by omega), by unfold CI; omega⟩
end Go.Proofs.YtfcgadokmbooaaaDoor.LibD
namespace Go.Proofs.YtfcgadokmbooaaaDoor.LibRz
open Go.RowKit Go.Proofs.YtfcgadokmbooaaaDoor.A Go.Proofs.YtfcgadokmbooaaaDoorW.PrintWords Go.Proofs.YtfcgadokmbooaaaDoorW.PrintLast Go.Proofs.YtfcgadokmbooaaaDoorW.PrintMore Go.Proofs.YtfcgadokmbooaaaDoor.LibU
def sz (x : S23) : Int := (x.f0.size : Int) + x.f1.size + 32
def S : List S23 → Int
  | [] => 0
  | x :: l => sz x + S l
theorem sz_pos (x : S23) : 32 ≤ sz x := by unfold sz; omega
theorem S_nonneg : ∀ l, 0 ≤ S l
  | [] => by simp [S]
  | x :: l => by have := S_nonneg l; have := sz_pos x; simp only [S]; omega
theorem S_snoc : ∀ (l : List S23) (x : S23), S (l ++ [x]) = S l + sz x
  | [], x => by simp [S]
  | y :: l, x => by have := S_snoc l x; simp only [List.cons_append, S]; omega
theorem take_snoc (l : List S23) (i : Nat) (h : i < l.length) : l.take (i + 1) = l.take i ++ [l.getD i z23] := by
  rw [List.take_add_one, List.getElem?_eq_getElem h, Option.toList_some, List.getD_eq_getElem?_getD, List.getElem?_eq_getElem h, Option.getD_some]
theorem S_take (l : List S23) (i : Nat) (h : i < l.length) : S (l.take (i + 1)) = S (l.take i) + sz (l.getD i z23) := by
  rw [take_snoc l i h, S_snoc]
theorem S_mono (l : List S23) (i j : Nat) (h : i ≤ j) (hj : j ≤ l.length) : S (l.take i) ≤ S (l.take j) := by
  induction j with
  | zero => rw [show i = 0 by omega]; omega
  | succ j ih =>
    by_cases c : i = j + 1
    · rw [c]; omega
    · have := ih (by omega) (by omega)
      rw [S_take l j (by omega)]
      have := sz_pos (l.getD j z23)
      omega
theorem of_val (x : S23) (h : sz x ≤ 1000000000) : spec_l4Of.f x.f0 x.f1 = some (sz x) := by
  unfold sz at h
  unfold spec_l4Of.f sz
  rw [w64 (x := (x.f0.size : Int) + (x.f1.size : Int)) (by omega) (by omega), w64 (by omega) (by omega)]
theorem size_l (l : List S23) (m : Int) (hl : l.length ≤ 1048580) (hS : S l ≤ 1000000000) (d : Nat) : ∀ (i : Nat), i ≤ l.length → l.length - i = d → ∀ k, d < k → spec_SizeOf.l0 k (S (l.take i)) (i : Int) m l = some (S l) := by
  induction d with
  | zero =>
    intro i hi hd k hk
    obtain ⟨k, rfl⟩ := ix (show 0 < k by omega)
    rw [spec_SizeOf.l0, if_neg (by omega), List.take_of_length_le (by omega)]
  | succ d ih =>
    intro i hi hd k hk
    obtain ⟨k, rfl⟩ := ix (show 0 < k by omega)
    have h1 := S_take l i (by omega)
    have h2 := S_mono l (i + 1) l.length (by omega) (Nat.le_refl _)
    rw [List.take_length] at h2
    have h3 := S_nonneg (l.take i)
    have h4 := sz_pos (l.getD i z23)
    have hrd : rd_T23 l (i : Int) = l.getD i z23 := by unfold rd_T23; rw [Int.toNat_natCast]
    rw [spec_SizeOf.l0, if_pos (by omega), if_pos (by omega), hrd]
    refine bs (of_val _ (by omega)) ?_
    rw [w64 (x := S (l.take i) + sz (l.getD i z23)) (by omega) (by omega), ← h1, w64 (x := (i : Int) + 1) (by omega) (by omega)]
    exact ih (i + 1) (by omega) (by omega) k (by omega)
theorem size (l : List S23) (m : Int) (hl : l.length ≤ 1048580) (hS : S l ≤ 1000000000) : ∀ k, l.length < k → spec_SizeOf.f k m l = some (S l) := by
  intro k hk
  unfold spec_SizeOf.f
  have := size_l l m hl hS l.length 0 (by omega) (by omega) k hk
  exact this
/-- The reference: from the end. -/
theorem fit_l (l : List S23) (m : Int) (hl : l.length ≤ 1048580) (hS : S l ≤ 1000000000) (i : Nat) (hi : i ≤ l.length) (h1 : S (l.take i) ≤ m) (h2 : i < l.length → m < S (l.take (i + 1))) (d : Nat) :
    ∀ (n : Nat), i ≤ n → n ≤ l.length → n - i = d → ∀ k, l.length + d + 1 < k → spec_l4Fit.l0 k m (l.take n) = some (m, l.take i) := by
  induction d with
  | zero =>
    intro n hn hn2 hd k hk
    obtain rfl : n = i := by omega
    obtain ⟨k, rfl⟩ := ix (show 0 < k by omega)
    have hll : (l.take n).length = n := by rw [List.length_take]; omega
    have h3 := S_mono l n l.length hn2 (Nat.le_refl _)
    rw [List.take_length] at h3
    rw [spec_l4Fit.l0]
    refine bs (size (l.take n) m (by omega) (by omega) k (by omega)) ?_
    rw [if_neg (by omega)]
  | succ d ih =>
    intro n hn hn2 hd k hk
    obtain ⟨k, rfl⟩ := ix (show 0 < k by omega)
    have hll : (l.take n).length = n := by rw [List.length_take]; omega
    have h3 := S_mono l n l.length hn2 (Nat.le_refl _)
    rw [List.take_length] at h3
    have h4 := S_mono l (i + 1) n (by omega) hn2
    have h5 := h2 (by omega)
    rw [spec_l4Fit.l0]
    refine bs (size (l.take n) m (by omega) (by omega) k (by omega)) ?_
    have hw : wrap64 (((l.take n).length : Int) - 1) = ((n - 1 : Nat) : Int) := by rw [hll, w64 (by omega) (by omega)]; omega
    rw [if_pos (by omega), hw, if_pos (by omega), if_pos (by rw [hll]; omega), Int.toNat_natCast, List.take_take, show min (n - 1) n = n - 1 by omega]
    exact ih (n - 1) (by omega) (by omega) (by omega) k (by omega)
/-- How many of the first fields fit. -/
theorem fit_at (l : List S23) (m : Int) (hm : 0 ≤ m) (d : Nat) : ∀ (i : Nat), i ≤ l.length → l.length - i = d → S (l.take i) ≤ m →
    ∃ j, j ≤ l.length ∧ S (l.take j) ≤ m ∧ (j < l.length → m < S (l.take (j + 1))) := by
  induction d with
  | zero => intro i hi hd h; exact ⟨i, hi, h, fun h => by omega⟩
  | succ d ih =>
    intro i hi hd h
    by_cases c : S (l.take (i + 1)) ≤ m
    · exact ih (i + 1) (by omega) (by omega) c
    · exact ⟨i, hi, h, fun _ => by omega⟩
theorem fit_any (l : List S23) (m : Int) (hl : l.length ≤ 1048580) (hS : S l ≤ 1000000000) (hm : 0 ≤ m) : ∃ j, j ≤ l.length ∧ S (l.take j) ≤ m ∧ (j < l.length → m < S (l.take (j + 1))) ∧ ∀ k, 2 * l.length + 1 < k → spec_l4Fit.f k m l = some (m, l.take j) := by
  obtain ⟨j, h1, h2, h3⟩ := fit_at l m hm l.length 0 (by omega) (by omega) (by show (0 : Int) ≤ m; omega)
  refine ⟨j, h1, h2, h3, fun k hk => ?_⟩
  have := fit_l l m hl hS j h1 h2 h3 (l.length - j) l.length h1 (Nat.le_refl _) rfl k (by omega)
  rw [List.take_length] at this
  unfold spec_l4Fit.f
  exact this
end Go.Proofs.YtfcgadokmbooaaaDoor.LibRz
namespace Go.Proofs.YtfcgadokmbooaaaDoor.LibDt
open Go.RowKit Go.Proofs.YtfcgadokmbooaaaDoor.A Go.Proofs.YtfcgadokmbooaaaDoorW.PrintWords Go.Proofs.YtfcgadokmbooaaaDoorW.PrintLast Go.Proofs.YtfcgadokmbooaaaDoorW.PrintMore Go.Proofs.YtfcgadokmbooaaaDoor.LibU Go.Proofs.YtfcgadokmbooaaaDoor.LibD Go.Proofs.YtfcgadokmbooaaaDoor.LibRz
theorem l1Int (b : List Int) (i h : Int) (l : List Int) (hl : 0 < l.length ∧ l.length ≤ 1000) (hi : CI b i) : ∃ x i' h', spec_l1Int.f b i h l = some (x, i', h') ∧ x ∈ l ∧ CI b i' := by
  unfold spec_l1Int.f
  obtain ⟨x, i', h', e, hx0, hx1, _, hi'⟩ := l1Below b i h l.length (by omega) hi
  rw [e]
  simp only [Option.bind_some]
  have hx := hx1 (by omega)
  rw [if_pos hx0, if_pos hx]
  refine ⟨_, _, _, rfl, ?_, hi'⟩
  unfold rd
  rw [List.getD_eq_getElem?_getD, List.getElem?_eq_getElem (show x.toNat < l.length by omega)]
  exact List.getElem_mem _
theorem l1Str (b : List Int) (i h : Int) (l : List ByteArray) (hl : 0 < l.length ∧ l.length ≤ 1000) (hi : CI b i) : ∃ x i' h', spec_l1Str.f b i h l = some (x, i', h') ∧ x ∈ l ∧ CI b i' := by
  unfold spec_l1Str.f
  obtain ⟨x, i', h', e, hx0, hx1, _, hi'⟩ := l1Below b i h l.length (by omega) hi
  rw [e]
  simp only [Option.bind_some]
  have hx2 := hx1 (by omega)
  obtain ⟨n, rfl⟩ := Int.eq_ofNat_of_zero_le hx0
  have hn : n < l.length := by omega
  rw [if_pos hx0, if_pos (by omega)]
  refine ⟨_, _, _, rfl, ?_, hi'⟩
  have e : rdOf ByteArray.empty l (n : Int) = l[n] := by simp [rdOf, List.getD_eq_getElem?_getD, List.getElem?_eq_getElem hn]
  rw [e]
  exact List.getElem_mem hn
/-- A drawn field is small. -/
def Small (x : S23) : Prop := x.f0.size ≤ 40 ∧ x.f1.size ≤ 40
def names : List ByteArray := ([(⟨#[58, 109, 101, 116, 104, 111, 100]⟩ : ByteArray), (⟨#[58, 112, 97, 116, 104]⟩ : ByteArray), (⟨#[58, 115, 116, 97, 116, 117, 115]⟩ : ByteArray), (⟨#[97, 103, 101]⟩ : ByteArray), (⟨#[120, 45, 97]⟩ : ByteArray), (⟨#[97, 117, 116, 104, 111, 114, 105, 122, 97, 116, 105, 111, 110]⟩ : ByteArray), (⟨#[117, 112, 108, 111, 97, 100, 45, 111, 102, 102, 115, 101, 116]⟩ : ByteArray), (⟨#[99, 111, 111, 107, 105, 101]⟩ : ByteArray)] : List ByteArray)
def vals : List ByteArray := ([(⟨#[71, 69, 84]⟩ : ByteArray), (⟨#[47]⟩ : ByteArray), (⟨#[50, 48, 48]⟩ : ByteArray), (⟨#[]⟩ : ByteArray), (⟨#[55]⟩ : ByteArray), (⟨#[97, 32, 108, 111, 110, 103, 32, 118, 97, 108, 117, 101, 32, 111, 102, 32, 115, 111, 109, 101, 32, 98, 121, 116, 101, 115]⟩ : ByteArray), (⟨#[80, 65, 84, 67, 72]⟩ : ByteArray)] : List ByteArray)
theorem l4Field (b : List Int) (i h : Int) (hi : CI b i) : ∃ n v i' h', spec_l4Field.f b i h = some (n, v, i', h') ∧ Small ⟨n, v⟩ ∧ CI b i' := by
  unfold spec_l4Field.f
  obtain ⟨n, i1, h1, e1, m1, hi1⟩ := l1Str b i h names (by decide) hi
  obtain ⟨v, i2, h2, e2, m2, hi2⟩ := l1Str b i1 h1 vals (by decide) hi1
  refine ⟨n, v, i2, h2, bs e1 (bs e2 rfl), ⟨?_, ?_⟩, hi2⟩
  · show n.size ≤ 40
    simp only [names, List.mem_cons, List.mem_nil_iff, or_false] at m1
    rcases m1 with rfl | rfl | rfl | rfl | rfl | rfl | rfl | rfl <;> decide
  · show v.size ≤ 40
    simp only [vals, List.mem_cons, List.mem_nil_iff, or_false] at m2
    rcases m2 with rfl | rfl | rfl | rfl | rfl | rfl | rfl <;> decide
theorem S_small : ∀ l : List S23, (∀ x ∈ l, Small x) → S l ≤ 112 * l.length
  | [], _ => by simp [S]
  | x :: l, h => by
    have h1 := S_small l (fun y hy => h y (List.mem_cons_of_mem _ hy))
    have h2 := h x List.mem_cons_self
    unfold Small at h2
    simp only [S, sz, List.length_cons]
    omega
theorem l4Add (m : Int) (l : List S23) (n v : ByteArray) (hm : 0 ≤ m) (hl : l.length ≤ 100) (hs : ∀ x ∈ l, Small x) (hx : Small ⟨n, v⟩) : ∃ l', (∀ k, 1000 ≤ k → spec_l4Add.f k m l n v = some (m, l')) ∧ l'.length ≤ l.length + 1 ∧ (∀ x ∈ l', Small x) := by
  have hs' : ∀ x ∈ (⟨n, v⟩ : S23) :: l, Small x := by
    intro x hx'
    rcases List.mem_cons.1 hx' with rfl | hx'
    · exact hx
    · exact hs x hx'
  have hS := S_small _ hs'
  simp only [List.length_cons] at hS
  obtain ⟨j, h1, h2, h3, h4⟩ := fit_any ((⟨n, v⟩ : S23) :: l) m (by simp only [List.length_cons]; omega) (by omega) hm
  refine ⟨((⟨n, v⟩ : S23) :: l).take j, fun k hk => ?_, ?_, fun x hx' => hs' x (List.mem_of_mem_take hx')⟩
  · unfold spec_l4Add.f
    rw [Option.bind_some, if_pos (by simp only [List.length_cons, List.length_nil]; omega)]
    exact bs (h4 k (by simp only [List.length_cons]; omega)) rfl
  · rw [List.length_take]
    simp only [List.length_cons]
    omega
theorem draw_l (b : List Int) (m : Int) (hm : 0 ≤ m) (d : Nat) : ∀ (i h : Int) (l : List S23), CI b i → l.length + d ≤ 50 → (∀ x ∈ l, Small x) →
    ∃ l' i' h', (∀ k, 1000 + d < k → spec_l4Draw.l0 k (d : Int) b i h m l = some (m, l', i', h')) ∧ l'.length ≤ l.length + d ∧ (∀ x ∈ l', Small x) ∧ CI b i' := by
  induction d with
  | zero =>
    intro i h l hi hl hs
    refine ⟨l, i, h, fun k hk => ?_, by omega, hs, hi⟩
    obtain ⟨k, rfl⟩ := ix (show 0 < k by omega)
    simp only [spec_l4Draw.l0]
    rw [if_neg (by omega)]
  | succ d ih =>
    intro i h l hi hl hs
    obtain ⟨n, v, i1, h1, e1, s1, hi1⟩ := l4Field b i h hi
    obtain ⟨l1, a1, a2, a3⟩ := l4Add m l n v hm (by omega) hs s1
    obtain ⟨l2, i2, h2, b1, b2, b3, b4⟩ := ih i1 h1 l1 hi1 (by omega) a3
    refine ⟨l2, i2, h2, fun k hk => ?_, by omega, b3, b4⟩
    obtain ⟨k, rfl⟩ := ix (show 0 < k by omega)
    simp only [spec_l4Draw.l0]
    rw [if_pos (by omega)]
    refine bs e1 (bs (a1 k (by omega)) ?_)
    rw [w64 (by omega) (by omega), show ((d + 1 : Nat) : Int) - 1 = (d : Int) by omega]
    exact b1 k (by omega)
theorem l4Draw (b : List Int) (i h : Int) (hi : CI b i) : ∃ m l i' h', (∀ k, 2000 ≤ k → spec_l4Draw.f k b i h = some (m, l, i', h')) ∧ l.length ≤ 6 ∧ (∀ x ∈ l, Small x) ∧ 0 ≤ m ∧ m ≤ 4096 ∧ CI b i' := by
  unfold spec_l4Draw.f
  obtain ⟨m, i1, h1, e1, m1, hi1⟩ := l1Int b i h [200, 100, 4096, 0, 60] (by decide) hi
  obtain ⟨n, i2, h2, e2, n0, n1, _, hi2⟩ := l1Below b i1 h1 6 (by omega) hi1
  have hm : 0 ≤ m ∧ m ≤ 4096 := by
    simp only [List.mem_cons, List.mem_nil_iff, or_false] at m1
    omega
  have n2 := n1 (by omega)
  obtain ⟨d, rfl⟩ := Int.eq_ofNat_of_zero_le n0
  obtain ⟨l, i3, h3, g1, g2, g3, g4⟩ := draw_l b m hm.1 d i2 h2 [] hi2 (by simp only [List.length_nil]; omega) (by intro x hx; cases hx)
  refine ⟨m, l, i3, h3, fun k hk => bs e1 (bs e2 (g1 k (by omega))), ?_, g3, hm.1, hm.2, g4⟩
  simp only [List.length_nil] at g2
  omega
theorem l4Any (b : List Int) (i h : Int) (hi : CI b i) : ∃ m l i' h', (∀ k, 2000 ≤ k → spec_l4Any.f k b i h = some (m, l, i', h')) ∧ l.length ≤ 8 ∧ (∀ x ∈ l, Small x) ∧ -1 ≤ m ∧ m ≤ 4097 ∧ CI b i' := by
  unfold spec_l4Any.f
  obtain ⟨m, l, i1, h1, e1, hl, hs, hm0, hm1, hi1⟩ := l4Draw b i h hi
  obtain ⟨q, i2, h2, e2, q0, q1, _, hi2⟩ := l1Below b i1 h1 10 (by omega) hi1
  by_cases c0 : q = 0
  · obtain ⟨m', i3, h3, e3, m3, hi3⟩ := l1Int b i2 h2 [(-1), 4097, 10] (by decide) hi2
    have hm : -1 ≤ m' ∧ m' ≤ 4097 := by
      simp only [List.mem_cons, List.mem_nil_iff, or_false] at m3
      omega
    exact ⟨m', l, i3, h3, fun k hk => bs (e1 k hk) (bs e2 (ifp c0 (bs e3 rfl))), by omega, hs, hm.1, hm.2, hi3⟩
  · by_cases c1 : q = 1
    · obtain ⟨n3, v3, i3, h3, e3, s3, hi3⟩ := l4Field b i2 h2 hi2
      obtain ⟨n4, v4, i4, h4, e4, s4, hi4⟩ := l4Field b i3 h3 hi3
      refine ⟨m, l ++ [⟨n3, v3⟩, ⟨n4, v4⟩], i4, h4, fun k hk => bs (e1 k hk) (bs e2 (ifn c0 (ifp c1 (bs e3 (bs e4 (bs rfl (ifp ?_ rfl))))))), ?_, ?_, by omega, by omega, hi4⟩
      · simp only [List.length_cons, List.length_nil]; omega
      · simp only [List.length_append, List.length_cons, List.length_nil]; omega
      · intro x hx
        simp only [List.mem_append, List.mem_cons, List.mem_nil_iff, or_false] at hx
        rcases hx with hx | rfl | rfl
        · exact hs x hx
        · exact s3
        · exact s4
    · exact ⟨m, l, i2, h2, fun k hk => bs (e1 k hk) (bs e2 (ifn c0 (ifn c1 rfl))), by omega, hs, by omega, by omega, hi2⟩
end Go.Proofs.YtfcgadokmbooaaaDoor.LibDt
namespace Go.Proofs.YtfcgadokmbooaaaDoor.LibFF
open Go Go.RowKit Go.Proofs.YtfcgadokmbooaaaDoor.A Go.Proofs.YtfcgadokmbooaaaDoorW.PrintWords Go.Proofs.YtfcgadokmbooaaaDoorW.PrintLast Go.Proofs.YtfcgadokmbooaaaDoorW.PrintMore Go.Proofs.YtfcgadokmbooaaaDoor.LibU
/-! Cutting at one byte -/
theorem ix_hit (c : UInt8) (p r : List UInt8) (h : c ∉ p) : Lib.index (p ++ c :: r) [c] = p.length := by
  rw [Lib.index_one]
  induction p with
  | nil => simp [Lib.indexByte]
  | cons b p ih =>
    have hb : (b == c) = false := by
      rw [beq_eq_false_iff_ne]
      intro e; exact h (by rw [e]; exact List.mem_cons_self ..)
    have hi := ih (fun e => h (List.mem_cons_of_mem _ e))
    rw [List.cons_append, Lib.indexByte, hb, hi]
    have : (((p.length : Int)) == -1) = false := by rw [beq_eq_false_iff_ne]; omega
    rw [this]
    simp
theorem ix_miss (c : UInt8) (p : List UInt8) (h : c ∉ p) : Lib.index p [c] = -1 := by
  rw [Lib.index_one]
  induction p with
  | nil => rfl
  | cons b p ih =>
    have hb : (b == c) = false := by
      rw [beq_eq_false_iff_ne]
      intro e; exact h (by rw [e]; exact List.mem_cons_self ..)
    rw [Lib.indexByte, hb, ih (fun e => h (List.mem_cons_of_mem _ e))]
    simp
def bar : List (List UInt8) → List UInt8
  | [] => []
  | [p] => p
  | p :: q :: ps => p ++ 124 :: bar (q :: ps)
theorem split_bar (ps : List (List UInt8)) : ∀ p, (∀ q ∈ p :: ps, (124 : UInt8) ∉ q) → Lib.splitK [124] 0 ps.length (bar (p :: ps)) = p :: ps := by
  induction ps with
  | nil => intro p _; rfl
  | cons q ps ih =>
    intro p h
    have hp := h p (List.mem_cons_self ..)
    have e : bar (p :: q :: ps) = p ++ 124 :: bar (q :: ps) := rfl
    have hi := ix_hit 124 p (bar (q :: ps)) hp
    rw [List.length_cons, Lib.splitK, e, hi]
    have hm : (((p.length : Int)) == -1) = false := by rw [beq_eq_false_iff_ne]; omega
    rw [hm, if_neg (by decide), Int.toNat_natCast]
    have e1 : (p ++ 124 :: bar (q :: ps)).take (p.length + 0) = p := by simp
    have e2 : (p ++ 124 :: bar (q :: ps)).drop (p.length + [(124 : UInt8)].length) = bar (q :: ps) := by
      rw [List.drop_append]; simp
    rw [e1, e2, ih q (fun x hx => h x (List.mem_cons_of_mem _ hx))]
theorem count_bar (ps : List (List UInt8)) : ∀ p fuel, (∀ q ∈ p :: ps, (124 : UInt8) ∉ q) → ps.length < fuel → Lib.countFrom [124] fuel (bar (p :: ps)) = ps.length := by
  induction ps with
  | nil =>
    intro p fuel h hf
    obtain ⟨f, rfl⟩ := ix (show 0 < fuel by omega)
    rw [Lib.countFrom, show bar [p] = p from rfl, ix_miss 124 p (h p (List.mem_cons_self ..))]
    rfl
  | cons q ps ih =>
    intro p fuel h hf
    obtain ⟨f, rfl⟩ := ix (show 0 < fuel by omega)
    have hp := h p (List.mem_cons_self ..)
    have e : bar (p :: q :: ps) = p ++ 124 :: bar (q :: ps) := rfl
    have hi := ix_hit 124 p (bar (q :: ps)) hp
    rw [Lib.countFrom, e, hi]
    have hm : (((p.length : Int)) == -1) = false := by rw [beq_eq_false_iff_ne]; omega
    rw [hm, if_neg (by decide), Int.toNat_natCast]
    have e2 : (p ++ 124 :: bar (q :: ps)).drop (p.length + [(124 : UInt8)].length) = bar (q :: ps) := by
      rw [List.drop_append]; simp
    rw [e2, ih q f (fun x hx => h x (List.mem_cons_of_mem _ hx)) (by simp at hf; omega), List.length_cons]
    omega
/-! The fields -/
def fields : List (List UInt8 × Option (List UInt8)) :=
  ([58, 97, 117, 116, 104, 111, 114, 105, 116, 121], none) ::
  ([58, 109, 101, 116, 104, 111, 100], some [71, 69, 84]) ::
  ([58, 109, 101, 116, 104, 111, 100], some [80, 79, 83, 84]) ::
  ([58, 112, 97, 116, 104], some [47]) ::
  ([58, 112, 97, 116, 104], some [47, 105, 110, 100, 101, 120, 46, 104, 116, 109, 108]) ::
  ([58, 115, 99, 104, 101, 109, 101], some [104, 116, 116, 112]) ::
  ([58, 115, 99, 104, 101, 109, 101], some [104, 116, 116, 112, 115]) ::
  ([58, 115, 116, 97, 116, 117, 115], some [50, 48, 48]) ::
  ([58, 115, 116, 97, 116, 117, 115], some [50, 48, 52]) ::
  ([58, 115, 116, 97, 116, 117, 115], some [50, 48, 54]) ::
  ([58, 115, 116, 97, 116, 117, 115], some [51, 48, 52]) ::
  ([58, 115, 116, 97, 116, 117, 115], some [52, 48, 48]) ::
  ([58, 115, 116, 97, 116, 117, 115], some [52, 48, 52]) ::
  ([58, 115, 116, 97, 116, 117, 115], some [53, 48, 48]) ::
  ([97, 99, 99, 101, 112, 116, 45, 99, 104, 97, 114, 115, 101, 116], none) ::
  ([97, 99, 99, 101, 112, 116, 45, 101, 110, 99, 111, 100, 105, 110, 103], some [103, 122, 105, 112, 44, 32, 100, 101, 102, 108, 97, 116, 101]) ::
  ([97, 99, 99, 101, 112, 116, 45, 108, 97, 110, 103, 117, 97, 103, 101], none) ::
  ([97, 99, 99, 101, 112, 116, 45, 114, 97, 110, 103, 101, 115], none) ::
  ([97, 99, 99, 101, 112, 116], none) ::
  ([97, 99, 99, 101, 115, 115, 45, 99, 111, 110, 116, 114, 111, 108, 45, 97, 108, 108, 111, 119, 45, 111, 114, 105, 103, 105, 110], none) ::
  ([97, 103, 101], none) ::
  ([97, 108, 108, 111, 119], none) ::
  ([97, 117, 116, 104, 111, 114, 105, 122, 97, 116, 105, 111, 110], none) ::
  ([99, 97, 99, 104, 101, 45, 99, 111, 110, 116, 114, 111, 108], none) ::
  ([99, 111, 110, 116, 101, 110, 116, 45, 100, 105, 115, 112, 111, 115, 105, 116, 105, 111, 110], none) ::
  ([99, 111, 110, 116, 101, 110, 116, 45, 101, 110, 99, 111, 100, 105, 110, 103], none) ::
  ([99, 111, 110, 116, 101, 110, 116, 45, 108, 97, 110, 103, 117, 97, 103, 101], none) ::
  ([99, 111, 110, 116, 101, 110, 116, 45, 108, 101, 110, 103, 116, 104], none) ::
  ([99, 111, 110, 116, 101, 110, 116, 45, 108, 111, 99, 97, 116, 105, 111, 110], none) ::
  ([99, 111, 110, 116, 101, 110, 116, 45, 114, 97, 110, 103, 101], none) ::
  ([99, 111, 110, 116, 101, 110, 116, 45, 116, 121, 112, 101], none) ::
  ([99, 111, 111, 107, 105, 101], none) ::
  ([100, 97, 116, 101], none) ::
  ([101, 116, 97, 103], none) ::
  ([101, 120, 112, 101, 99, 116], none) ::
  ([101, 120, 112, 105, 114, 101, 115], none) ::
  ([102, 114, 111, 109], none) ::
  ([104, 111, 115, 116], none) ::
  ([105, 102, 45, 109, 97, 116, 99, 104], none) ::
  ([105, 102, 45, 109, 111, 100, 105, 102, 105, 101, 100, 45, 115, 105, 110, 99, 101], none) ::
  ([105, 102, 45, 110, 111, 110, 101, 45, 109, 97, 116, 99, 104], none) ::
  ([105, 102, 45, 114, 97, 110, 103, 101], none) ::
  ([105, 102, 45, 117, 110, 109, 111, 100, 105, 102, 105, 101, 100, 45, 115, 105, 110, 99, 101], none) ::
  ([108, 97, 115, 116, 45, 109, 111, 100, 105, 102, 105, 101, 100], none) ::
  ([108, 105, 110, 107], none) ::
  ([108, 111, 99, 97, 116, 105, 111, 110], none) ::
  ([109, 97, 120, 45, 102, 111, 114, 119, 97, 114, 100, 115], none) ::
  ([112, 114, 111, 120, 121, 45, 97, 117, 116, 104, 101, 110, 116, 105, 99, 97, 116, 101], none) ::
  ([112, 114, 111, 120, 121, 45, 97, 117, 116, 104, 111, 114, 105, 122, 97, 116, 105, 111, 110], none) ::
  ([114, 97, 110, 103, 101], none) ::
  ([114, 101, 102, 101, 114, 101, 114], none) ::
  ([114, 101, 102, 114, 101, 115, 104], none) ::
  ([114, 101, 116, 114, 121, 45, 97, 102, 116, 101, 114], none) ::
  ([115, 101, 114, 118, 101, 114], none) ::
  ([115, 101, 116, 45, 99, 111, 111, 107, 105, 101], none) ::
  ([115, 116, 114, 105, 99, 116, 45, 116, 114, 97, 110, 115, 112, 111, 114, 116, 45, 115, 101, 99, 117, 114, 105, 116, 121], none) ::
  ([116, 114, 97, 110, 115, 102, 101, 114, 45, 101, 110, 99, 111, 100, 105, 110, 103], none) ::
  ([117, 115, 101, 114, 45, 97, 103, 101, 110, 116], none) ::
  ([118, 97, 114, 121], none) ::
  ([118, 105, 97], none) ::
  ([119, 119, 119, 45, 97, 117, 116, 104, 101, 110, 116, 105, 99, 97, 116, 101], none) :: []
def part : List UInt8 × Option (List UInt8) → List UInt8
  | (n, none) => n
  | (n, some v) => n ++ 61 :: v
def fieldOf (x : List UInt8 × Option (List UInt8)) : S23 := ⟨⟨x.1.toArray⟩, ⟨(x.2.getD []).toArray⟩⟩
def parts : List (List UInt8) := fields.map part
theorem parts_bar : ∀ q ∈ parts, (124 : UInt8) ∉ q := by decide +kernel
theorem fields_eq : ∀ x ∈ fields, (61 : UInt8) ∉ x.1 := by decide +kernel
theorem parts_small : ∀ q ∈ parts, q.length < 100 := by decide +kernel
theorem parts_len : parts.length = 61 := by decide +kernel
theorem cut_part (x : List UInt8 × Option (List UInt8)) (h : (61 : UInt8) ∉ x.1) : (Lib.cut (part x) [61]).1 = x.1 ∧ (Lib.cut (part x) [61]).2.1 = x.2.getD [] := by
  obtain ⟨n, v⟩ := x
  cases v with
  | none =>
    have e : part (n, none) = n := rfl
    rw [e, Lib.cut, ix_miss 61 n h, if_neg (by decide)]
    exact ⟨rfl, rfl⟩
  | some v =>
    have e : part (n, some v) = n ++ 61 :: v := rfl
    rw [e, Lib.cut, ix_hit 61 n v h, if_pos (by omega), Int.toNat_natCast]
    refine ⟨by simp, ?_⟩
    show (n ++ 61 :: v).drop (n.length + [(61 : UInt8)].length) = v
    rw [List.drop_append]; simp
theorem bytes_ext {a b : ByteArray} (h : a.data.toList = b.data.toList) : a = b := by
  cases a; cases b; simp at h; rw [h]
/-- The loop over the parts. -/
theorem loop (fs : List (List UInt8 × Option (List UInt8))) (hf : ∀ x ∈ fs, (61 : UInt8) ∉ x.1) (hs : ∀ x ∈ fs, (part x).length < 100) (hl : fs.length ≤ 1000) (d : Nat) : ∀ (i k : Nat) (acc : List S23), acc.length ≤ i → i ≤ fs.length → fs.length - i = d → d < k →
    impl_firstFields.l0 k acc (fs.map fun x => (⟨(part x).toArray⟩ : ByteArray)) (fs.length : Int) (i : Int) = some (acc ++ (fs.drop i).map fieldOf) := by
  induction d with
  | zero =>
    intro i k acc ha hi hd hk
    obtain ⟨k, rfl⟩ := ix (show 0 < k by omega)
    simp only [impl_firstFields.l0]
    rw [if_neg (by omega), List.drop_of_length_le (by omega)]
    simp
  | succ d ih =>
    intro i k acc ha hi hd hk
    obtain ⟨k, rfl⟩ := ix (show 0 < k by omega)
    have hlt : i < fs.length := by omega
    have hx := List.getElem_mem hlt
    have hr : rdOf ByteArray.empty (fs.map fun x => (⟨(part x).toArray⟩ : ByteArray)) (i : Int) = ⟨(part fs[i]).toArray⟩ := by
      simp [rdOf, List.getD_eq_getElem?_getD, List.getElem?_eq_getElem hlt]
    simp only [impl_firstFields.l0]
    rw [if_pos (by omega), if_pos (by omega), if_pos (by simp; omega), hr]
    obtain ⟨c1, c2⟩ := cut_part fs[i] (hf _ hx)
    have hcut : ∃ b, strings_Cut.f (⟨(part fs[i]).toArray⟩ : ByteArray) (⟨#[61]⟩ : ByteArray) = some (⟨fs[i].1.toArray⟩, ⟨(fs[i].2.getD []).toArray⟩, b) := by
      unfold strings_Cut.f
      have hsz : (ByteArray.mk (part fs[i]).toArray).size < 4294967281 := by
        show (part fs[i]).toArray.size < _
        rw [List.size_toArray]
        have := hs _ hx
        omega
      rw [if_pos hsz]
      refine ⟨(Lib.cut (part fs[i]) [61]).2.2, ?_⟩
      have e1 : (ByteArray.mk (part fs[i]).toArray).data.toList = part fs[i] := rfl
      have e2 : (ByteArray.mk #[61]).data.toList = [61] := rfl
      rw [e1, e2, c1, c2]
    obtain ⟨b, hb⟩ := hcut
    refine bs hb ?_
    rw [if_pos (by omega), w64 (by omega) (by omega)]
    have := ih (i + 1) k (acc ++ [fieldOf fs[i]]) (by simp; omega) (by omega) (by omega) (by omega)
    rw [List.drop_eq_getElem_cons hlt, List.map_cons]
    simpa [fieldOf] using this
theorem bar_length (ps : List (List UInt8)) : ∀ p, ps.length ≤ (bar (p :: ps)).length := by
  induction ps with
  | nil => intro p; simp
  | cons q ps ih =>
    intro p
    have e : bar (p :: q :: ps) = p ++ 124 :: bar (q :: ps) := rfl
    have := ih q
    rw [e, List.length_append, List.length_cons, List.length_cons]
    omega
theorem split_text (s : ByteArray) (hs : s.data.toList = bar parts) (hz : s.size < 4294967281) : strings_Split.f s (⟨#[124]⟩ : ByteArray) = some (fields.map fun x => (⟨(part x).toArray⟩ : ByteArray)) := by
  obtain ⟨p, ps, hp⟩ : ∃ p ps, parts = p :: ps := ⟨_, _, rfl⟩
  have hall : ∀ q ∈ p :: ps, (124 : UInt8) ∉ q := by rw [← hp]; exact parts_bar
  have htl : ps.length = 60 := by
    have := parts_len
    rw [hp, List.length_cons] at this
    omega
  have e2 : (ByteArray.mk #[124]).data.toList = [124] := rfl
  have hc : Lib.countB s (⟨#[124]⟩ : ByteArray) = 60 := by
    show Lib.count s.data.toList [124] = 60
    rw [hs, hp]
    unfold Lib.count
    have := bar_length ps p
    rw [count_bar _ _ _ hall (by omega), htl]
  have hd := Lib.splitB_data (⟨#[124]⟩ : ByteArray) 0 60 s
  rw [e2, hs, hp] at hd
  have hk := split_bar ps p hall
  rw [htl] at hk
  rw [hk, ← hp] at hd
  have hL : Lib.splitB (⟨#[124]⟩ : ByteArray) 0 60 s = parts.map fun q => (⟨q.toArray⟩ : ByteArray) := by
    rw [← hd, List.map_map]
    conv => lhs; rw [← List.map_id (Lib.splitB (⟨#[124]⟩ : ByteArray) 0 60 s)]
    apply List.map_congr_left
    intro x _
    apply bytes_ext
    simp
  unfold strings_Split.f
  rw [hc, hL]
  have hm : (60 : Nat) + 1 ≤ maxLen := by unfold maxLen; omega
  rw [if_pos ⟨⟨hz, by decide⟩, hm, by rw [List.length_map, parts_len]⟩]
  unfold parts
  rw [List.map_map]
  rfl
theorem firsts (k : Nat) (hk : 70 ≤ k) : impl_firstFields.f k = some (fields.map fieldOf) := by
  unfold impl_firstFields.f
  refine bs (split_text _ (by kernel_rfl) (by decide +kernel)) ?_
  have hl : fields.length = 61 := by have := parts_len; unfold parts at this; rw [List.length_map] at this; exact this
  have := loop fields fields_eq (fun x hx => parts_small _ (List.mem_map_of_mem hx)) (by omega) 61 0 k [] (by simp) (by omega) (by omega) (by omega)
  rw [List.length_map]
  simpa using this
theorem spec_firsts : spec_l4First.f = some (fields.map fieldOf) := by kernel_rfl
end Go.Proofs.YtfcgadokmbooaaaDoor.LibFF
namespace Go.Proofs.YtfcgadokmbooaaaDoor.LibFd
open Go Go.RowKit Go.Proofs.YtfcgadokmbooaaaDoor.A Go.Proofs.YtfcgadokmbooaaaDoorW.PrintWords Go.Proofs.YtfcgadokmbooaaaDoorW.PrintLast Go.Proofs.YtfcgadokmbooaaaDoor.LibU Go.Proofs.YtfcgadokmbooaaaDoor.LibFF
theorem concat (a b : List S23) (h : a.length + b.length ≤ 2000000) : ∀ k, 10 ≤ k → impl_Field_36.f k [a, b] = some (a ++ b) := by
  intro k hk
  obtain ⟨k, rfl⟩ : ∃ m, k = m + 10 := ⟨k - 10, by omega⟩
  have r0 : rd_L2 [a, b] 0 = a := rfl
  have r1 : rd_L2 [a, b] 1 = b := rfl
  have hl : ((([a, b] : List (List S23)).length : Nat) : Int) = 2 := rfl
  have w1 : wrap64 ((0 : Int) + (a.length : Int)) = (a.length : Int) := by rw [w64 (by omega) (by omega)]; omega
  have w2 : wrap64 ((a.length : Int) + (b.length : Int)) = (a.length : Int) + (b.length : Int) := w64 (by omega) (by omega)
  have w3 : wrap64 ((0 : Int) + 1) = 1 := by unfold wrap64; omega
  have w4 : wrap64 ((1 : Int) + 1) = 2 := by unfold wrap64; omega
  have hg : impl_Field_48.f ([] : List S23) ((a.length : Int) + (b.length : Int)) = some [] := by
    unfold impl_Field_48.f
    rw [if_pos ⟨rfl, by omega, by omega⟩]
  unfold impl_Field_36.f
  rw [hl, impl_Field_36.l0, if_pos (by decide), if_pos (by decide), hl, if_pos (by decide), r0, w1, if_neg (by omega), w3]
  rw [impl_Field_36.l0, if_pos (by decide), if_pos (by decide), hl, if_pos (by decide), r1, w2, if_neg (by omega), w4]
  rw [impl_Field_36.l0, if_neg (by decide)]
  refine bs hg ?_
  rw [hl]
  rw [impl_Field_36.l1, if_pos (by decide), if_pos (by decide), hl, if_pos (by decide), r0, if_pos (by simp; omega), w3]
  rw [impl_Field_36.l1, if_pos (by decide), if_pos (by decide), hl, if_pos (by decide), r1, if_pos (by simp; omega), w4]
  rw [impl_Field_36.l1, if_neg (by decide), List.nil_append]
theorem rd_left (F l : List S23) (i : Nat) (h : i < F.length) : rd_T23 (F ++ l) (i : Int) = rd_T23 F (i : Int) := by
  unfold rd_T23
  rw [Int.toNat_natCast, List.getD_eq_getElem?_getD, List.getD_eq_getElem?_getD, List.getElem?_append_left h]
theorem rd_right (F l : List S23) (i j : Nat) (h : i = F.length + j) : rd_T23 (F ++ l) (i : Int) = rd_T23 l (j : Int) := by
  unfold rd_T23
  rw [Int.toNat_natCast, Int.toNat_natCast, List.getD_eq_getElem?_getD, List.getD_eq_getElem?_getD, List.getElem?_append_right (by omega), show i - F.length = j by omega]
theorem find_both (F l : List S23) (hF : F.length = 61) (hl : l.length ≤ 1048576) (m : Int) (n v : ByteArray) (d : Nat) : ∀ (i : Nat) (nm : Int), i ≤ 61 + l.length → 61 + l.length - i = d →
    ∃ r : Int × Bool, (∀ k, 2 * d + 3 ≤ k → spec_FindField.l0 k F nm ((i + 1 : Nat) : Int) m l n v = some r) ∧ (∀ k, d + 2 ≤ k → impl_FindField.l0 k nm (F ++ l) ((F ++ l).length : Int) (i : Int) n v = some r) := by
  have hL : ((F ++ l).length : Int) = 61 + (l.length : Int) := by rw [List.length_append, hF]; omega
  have hw : wrap64 (61 + (l.length : Int)) = 61 + (l.length : Int) := w64 (by omega) (by omega)
  induction d with
  | zero =>
    intro i nm hi hd
    refine ⟨(nm, false), fun k hk => ?_, fun k hk => ?_⟩
    · obtain ⟨k, rfl⟩ := ix (show 0 < k by omega)
      rw [spec_FindField.l0, hw, if_neg (by omega)]
    · obtain ⟨k, rfl⟩ := ix (show 0 < k by omega)
      rw [impl_FindField.l0, if_neg (by omega)]
  | succ d ih =>
    intro i nm hi hd
    obtain ⟨x, hx⟩ : ∃ x, x = rd_T23 (F ++ l) (i : Int) := ⟨_, rfl⟩
    have e1 : wrap64 ((i : Int) + 1) = ((i + 1 : Nat) : Int) := by rw [w64 (by omega) (by omega)]; omega
    have e2 : wrap64 (((i + 1 : Nat) : Int) + 1) = ((i + 1 + 1 : Nat) : Int) := by rw [w64 (by omega) (by omega)]; omega
    have hs : ∀ k, spec_FindField.l0 (k + 1) F nm ((i + 1 : Nat) : Int) m l n v = spec_FindField.j1 k F nm ((i + 1 : Nat) : Int) m l n v x.f0 x.f1 := by
      intro k
      rw [spec_FindField.l0, hw, if_pos (by omega)]
      by_cases h : i < 61
      · have e3 : wrap64 (((i + 1 : Nat) : Int) - 1) = (i : Int) := by rw [w64 (by omega) (by omega)]; omega
        rw [if_pos (by omega), e3, if_pos (by omega), if_pos (by omega), hx, rd_left F l i (by omega)]
      · have e3 : wrap64 (((i + 1 : Nat) : Int) - 62) = ((i - 61 : Nat) : Int) := by rw [w64 (by omega) (by omega)]; omega
        rw [if_neg (by omega), e3, if_pos (by omega), if_pos (by omega), hx, rd_right F l i (i - 61) (by omega)]
    obtain ⟨c, hc⟩ : ∃ c, c = (x.f0.toList == n.toList && (x.f1.toList == v.toList)) := ⟨_, rfl⟩
    have hi2 : ∀ k, impl_FindField.l0 (k + 1) nm (F ++ l) ((F ++ l).length : Int) (i : Int) n v = (if c = true then (some (((i + 1 : Nat) : Int), true)) else (if nm = 0 then (if x.f0.toList = n.toList then (impl_FindField.l0 k ((i + 1 : Nat) : Int) (F ++ l) ((F ++ l).length : Int) ((i + 1 : Nat) : Int) n v) else (impl_FindField.l0 k nm (F ++ l) ((F ++ l).length : Int) ((i + 1 : Nat) : Int) n v)) else (impl_FindField.l0 k nm (F ++ l) ((F ++ l).length : Int) ((i + 1 : Nat) : Int) n v))) := by
      intro k
      rw [impl_FindField.l0, if_pos (by omega), if_pos (by omega), if_pos (by omega), ← hx, e1, hc]
    have hj : ∀ k, spec_FindField.j1 (k + 1) F nm ((i + 1 : Nat) : Int) m l n v x.f0 x.f1 = (if c = true then (some (((i + 1 : Nat) : Int), true)) else (if nm = 0 then (if x.f0.toList = n.toList then (spec_FindField.l0 k F ((i + 1 : Nat) : Int) ((i + 1 + 1 : Nat) : Int) m l n v) else (spec_FindField.l0 k F nm ((i + 1 + 1 : Nat) : Int) m l n v)) else (spec_FindField.l0 k F nm ((i + 1 + 1 : Nat) : Int) m l n v))) := by
      intro k
      rw [spec_FindField.j1, e2, hc]
    have fin : ∀ (r : Int × Bool) (nm' : Int), ((∀ k, 2 * d + 3 ≤ k → spec_FindField.l0 k F nm' ((i + 1 + 1 : Nat) : Int) m l n v = some r) ∧ (∀ k, d + 2 ≤ k → impl_FindField.l0 k nm' (F ++ l) ((F ++ l).length : Int) ((i + 1 : Nat) : Int) n v = some r)) →
        (∀ k, (if c = true then (some (((i + 1 : Nat) : Int), true)) else (if nm = 0 then (if x.f0.toList = n.toList then (spec_FindField.l0 k F ((i + 1 : Nat) : Int) ((i + 1 + 1 : Nat) : Int) m l n v) else (spec_FindField.l0 k F nm ((i + 1 + 1 : Nat) : Int) m l n v)) else (spec_FindField.l0 k F nm ((i + 1 + 1 : Nat) : Int) m l n v))) = spec_FindField.l0 k F nm' ((i + 1 + 1 : Nat) : Int) m l n v) →
        (∀ k, (if c = true then (some (((i + 1 : Nat) : Int), true)) else (if nm = 0 then (if x.f0.toList = n.toList then (impl_FindField.l0 k ((i + 1 : Nat) : Int) (F ++ l) ((F ++ l).length : Int) ((i + 1 : Nat) : Int) n v) else (impl_FindField.l0 k nm (F ++ l) ((F ++ l).length : Int) ((i + 1 : Nat) : Int) n v)) else (impl_FindField.l0 k nm (F ++ l) ((F ++ l).length : Int) ((i + 1 : Nat) : Int) n v))) = impl_FindField.l0 k nm' (F ++ l) ((F ++ l).length : Int) ((i + 1 : Nat) : Int) n v) →
        ∃ r : Int × Bool, (∀ k, 2 * (d + 1) + 3 ≤ k → spec_FindField.l0 k F nm ((i + 1 : Nat) : Int) m l n v = some r) ∧ (∀ k, d + 1 + 2 ≤ k → impl_FindField.l0 k nm (F ++ l) ((F ++ l).length : Int) (i : Int) n v = some r) := by
      rintro r nm' ⟨h1, h2⟩ g1 g2
      refine ⟨r, fun k hk => ?_, fun k hk => ?_⟩
      · obtain ⟨k, rfl⟩ : ∃ q, k = q + 1 + 1 := ⟨k - 2, by omega⟩
        rw [hs, hj, g1]
        exact h1 k (by omega)
      · obtain ⟨k, rfl⟩ := ix (show 0 < k by omega)
        rw [hi2, g2]
        exact h2 k (by omega)
    by_cases h1 : c = true
    · refine ⟨(((i + 1 : Nat) : Int), true), fun k hk => ?_, fun k hk => ?_⟩
      · obtain ⟨k, rfl⟩ : ∃ q, k = q + 1 + 1 := ⟨k - 2, by omega⟩
        rw [hs, hj, if_pos h1]
      · obtain ⟨k, rfl⟩ := ix (show 0 < k by omega)
        rw [hi2, if_pos h1]
    · obtain ⟨r1, hr1⟩ := ih (i + 1) ((i + 1 : Nat) : Int) (by omega) (by omega)
      obtain ⟨r2, hr2⟩ := ih (i + 1) nm (by omega) (by omega)
      by_cases h2 : nm = 0
      · by_cases h3 : x.f0.toList = n.toList
        · exact fin r1 _ hr1 (fun k => by rw [if_neg h1, if_pos h2, if_pos h3]) (fun k => by rw [if_neg h1, if_pos h2, if_pos h3])
        · exact fin r2 _ hr2 (fun k => by rw [if_neg h1, if_pos h2, if_neg h3]) (fun k => by rw [if_neg h1, if_pos h2, if_neg h3])
      · exact fin r2 _ hr2 (fun k => by rw [if_neg h1, if_neg h2]) (fun k => by rw [if_neg h1, if_neg h2])
theorem fields_len : (fields.map fieldOf).length = 61 := by decide +kernel
theorem findField (m : Int) (l : List S23) (n v : ByteArray) (hl : l.length ≤ 1048576) : ∃ r : Int × Bool, (∀ k, 2 * l.length + 300 ≤ k → spec_FindField.f k m l n v = some r) ∧ (∀ k, 2 * l.length + 300 ≤ k → impl_FindField.f k m l n v = some r) := by
  obtain ⟨F, hFe⟩ : ∃ F, F = fields.map fieldOf := ⟨_, rfl⟩
  have hF : F.length = 61 := by rw [hFe]; exact fields_len
  have hf := firsts
  have hsf := spec_firsts
  rw [← hFe] at hsf
  obtain ⟨r, h1, h2⟩ := find_both F l hF hl m n v (61 + l.length) 0 0 (by omega) (by omega)
  refine ⟨r, fun k hk => ?_, fun k hk => ?_⟩
  · unfold spec_FindField.f
    refine bs hsf ?_
    exact h1 k (by omega)
  · unfold impl_FindField.f
    have hfk := hf k (by omega)
    rw [← hFe] at hfk
    refine bs hfk ?_
    refine bs (concat F l (by omega) k (by omega)) ?_
    exact h2 k (by omega)
/-- A name's number, as far as it is known. -/
def Nm (L : List S23) (n : ByteArray) (nm : Int) : Prop := nm = 0 ∨ ∃ j : Nat, nm = (j : Int) + 1 ∧ j < L.length ∧ (rd_T23 L (j : Int)).f0.toList = n.toList
/-- What is found. -/
def Good (L : List S23) (n v : ByteArray) (r : Int × Bool) : Prop :=
  (r.2 = true → ∃ j : Nat, r.1 = (j : Int) + 1 ∧ j < L.length ∧ (rd_T23 L (j : Int)).f0.toList = n.toList ∧ (rd_T23 L (j : Int)).f1.toList = v.toList) ∧
  (r.2 = false → r.1 = 0 ∨ ∃ j : Nat, r.1 = (j : Int) + 1 ∧ j < L.length ∧ (rd_T23 L (j : Int)).f0.toList = n.toList)
theorem good_l (L : List S23) (hl : L.length ≤ 2000000) (n v : ByteArray) (d : Nat) : ∀ (i : Nat) (nm : Int), i ≤ L.length → L.length - i = d → Nm L n nm →
    ∃ r : Int × Bool, (∀ k, d + 2 ≤ k → impl_FindField.l0 k nm L (L.length : Int) (i : Int) n v = some r) ∧ Good L n v r := by
  induction d with
  | zero =>
    intro i nm hi hd hn
    refine ⟨(nm, false), fun k hk => ?_, ⟨fun h => (by cases h), fun _ => hn⟩⟩
    obtain ⟨k, rfl⟩ := ix (show 0 < k by omega)
    rw [impl_FindField.l0, if_neg (by omega)]
  | succ d ih =>
    intro i nm hi hd hn
    have e1 : wrap64 ((i : Int) + 1) = ((i + 1 : Nat) : Int) := by rw [w64 (by omega) (by omega)]; omega
    by_cases c : ((rd_T23 L (i : Int)).f0.toList == n.toList && ((rd_T23 L (i : Int)).f1.toList == v.toList)) = true
    · refine ⟨(((i + 1 : Nat) : Int), true), fun k hk => ?_, ⟨fun _ => ⟨i, by omega, by omega, ?_⟩, fun h => (by cases h)⟩⟩
      · obtain ⟨k, rfl⟩ := ix (show 0 < k by omega)
        rw [impl_FindField.l0, if_pos (by omega), if_pos (by omega), if_pos (by omega), if_pos c, e1]
      · simpa using c
    · by_cases h0 : nm = 0
      · by_cases h1 : (rd_T23 L (i : Int)).f0.toList = n.toList
        · obtain ⟨r, g1, g2⟩ := ih (i + 1) ((i + 1 : Nat) : Int) (by omega) (by omega) (.inr ⟨i, by omega, by omega, h1⟩)
          refine ⟨r, fun k hk => ?_, g2⟩
          obtain ⟨k, rfl⟩ := ix (show 0 < k by omega)
          rw [impl_FindField.l0, if_pos (by omega), if_pos (by omega), if_pos (by omega), if_neg c, if_pos h0, if_pos h1, e1]
          exact g1 k (by omega)
        · obtain ⟨r, g1, g2⟩ := ih (i + 1) nm (by omega) (by omega) hn
          refine ⟨r, fun k hk => ?_, g2⟩
          obtain ⟨k, rfl⟩ := ix (show 0 < k by omega)
          rw [impl_FindField.l0, if_pos (by omega), if_pos (by omega), if_pos (by omega), if_neg c, if_pos h0, if_neg h1, e1]
          exact g1 k (by omega)
      · obtain ⟨r, g1, g2⟩ := ih (i + 1) nm (by omega) (by omega) hn
        refine ⟨r, fun k hk => ?_, g2⟩
        obtain ⟨k, rfl⟩ := ix (show 0 < k by omega)
        rw [impl_FindField.l0, if_pos (by omega), if_pos (by omega), if_pos (by omega), if_neg c, if_neg h0, e1]
        exact g1 k (by omega)
/-- The first that is the very field is found. -/
theorem first_l (L : List S23) (hl : L.length ≤ 2000000) (n v : ByteArray) (p : Nat) (hp : p < L.length) (hpe : ((rd_T23 L (p : Int)).f0.toList == n.toList && ((rd_T23 L (p : Int)).f1.toList == v.toList)) = true)
    (hq : ∀ q, q < p → ¬ (((rd_T23 L (q : Int)).f0.toList == n.toList && ((rd_T23 L (q : Int)).f1.toList == v.toList)) = true)) (d : Nat) : ∀ (i : Nat) (nm : Int), i ≤ p → p - i = d →
    ∀ k, d + 2 ≤ k → impl_FindField.l0 k nm L (L.length : Int) (i : Int) n v = some (((p + 1 : Nat) : Int), true) := by
  induction d with
  | zero =>
    intro i nm hi hd k hk
    obtain rfl : i = p := by omega
    obtain ⟨k, rfl⟩ := ix (show 0 < k by omega)
    rw [impl_FindField.l0, if_pos (by omega), if_pos (by omega), if_pos (by omega), if_pos hpe, w64 (by omega) (by omega)]
    rfl
  | succ d ih =>
    intro i nm hi hd k hk
    have e1 : wrap64 ((i : Int) + 1) = ((i + 1 : Nat) : Int) := by rw [w64 (by omega) (by omega)]; omega
    obtain ⟨k, rfl⟩ := ix (show 0 < k by omega)
    rw [impl_FindField.l0, if_pos (by omega), if_pos (by omega), if_pos (by omega), if_neg (hq i (by omega)), e1]
    have h := fun nm => ih (i + 1) nm (by omega) (by omega) k (by omega)
    rw [h, h]
    split
    · split <;> rfl
    · rfl
theorem found (m : Int) (l : List S23) (n v : ByteArray) (hl : l.length ≤ 1048576) : ∃ r : Int × Bool, (∀ k, 2 * l.length + 300 ≤ k → spec_FindField.f k m l n v = some r) ∧ (∀ k, 2 * l.length + 300 ≤ k → impl_FindField.f k m l n v = some r) ∧ Good (fields.map fieldOf ++ l) n v r := by
  obtain ⟨r, h1, h2⟩ := findField m l n v hl
  refine ⟨r, h1, h2, ?_⟩
  have hF := fields_len
  have hL : (fields.map fieldOf ++ l).length = 61 + l.length := by rw [List.length_append, hF]
  obtain ⟨r', g1, g2⟩ := good_l (fields.map fieldOf ++ l) (by omega) n v _ 0 0 (by omega) rfl (.inl rfl)
  have h := h2 (2 * l.length + 400) (by omega)
  unfold impl_FindField.f at h
  rw [firsts _ (by omega), Option.bind_some, concat _ _ (by omega) _ (by omega), Option.bind_some] at h
  have := g1 (2 * l.length + 400) (by omega)
  rw [show ((0 : Nat) : Int) = 0 from rfl] at this
  rw [this] at h
  rw [← Option.some.inj h]
  exact g2
theorem firstField (i : Nat) (h0 : 1 ≤ i) (h1 : i ≤ 61) (k : Nat) (hk : 70 ≤ k) : impl_FirstField.f k (i : Int) = some ((rd_T23 (fields.map fieldOf) ((i - 1 : Nat) : Int)).f0, (rd_T23 (fields.map fieldOf) ((i - 1 : Nat) : Int)).f1, true) := by
  have hF := fields_len
  have e : wrap64 ((i : Int) - 1) = ((i - 1 : Nat) : Int) := by rw [w64 (by omega) (by omega)]; omega
  unfold impl_FirstField.f
  refine bs (inRange _ _ _) ?_
  rw [decide_eq_true (by omega : (1 : Int) ≤ (i : Int) ∧ (i : Int) ≤ 61)]
  refine ifp rfl (bs (firsts k hk) ?_)
  rw [e, if_pos (by omega), if_pos (by omega)]
theorem fieldAt (m : Int) (l : List S23) (hl : l.length ≤ 1048576) (j : Nat) (hj : j < 61 + l.length) (k : Nat) (hk : 70 ≤ k) : impl_FieldAt.f k m l ((j : Int) + 1) = some ((rd_T23 (fields.map fieldOf ++ l) (j : Int)).f0, (rd_T23 (fields.map fieldOf ++ l) (j : Int)).f1, true) := by
  have hF := fields_len
  unfold impl_FieldAt.f
  by_cases c : j < 61
  · rw [if_pos (by omega), rd_left _ _ _ (by omega)]
    have := firstField (j + 1) (by omega) (by omega) k hk
    rw [show ((j + 1 : Nat) : Int) = (j : Int) + 1 by omega, show j + 1 - 1 = j by omega] at this
    exact bs this rfl
  · have e1 : wrap64 ((j : Int) + 1 - 61) = (j : Int) - 60 := by rw [w64 (by omega) (by omega)]; omega
    have e2 : wrap64 ((j : Int) - 60 - 1) = ((j - 61 : Nat) : Int) := by rw [w64 (by omega) (by omega)]; omega
    rw [if_neg (by omega), e1, if_neg (by omega), e2, if_pos (by omega), if_pos (by omega), rd_right _ _ j (j - 61) (by omega)]
end Go.Proofs.YtfcgadokmbooaaaDoor.LibFd
