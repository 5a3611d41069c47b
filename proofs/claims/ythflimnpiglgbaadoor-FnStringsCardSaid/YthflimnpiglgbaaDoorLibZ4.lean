/- Small laws of numbers and rounds, and the two tests of a range. No condition beyond each theorem's own. The reference's test of a range. No condition. Huffman's code: the reference's tables are the program's. No condition. unHuff and the reference's UnHuff: what bits decode to. Condition: each theorem's own bounds. UnHuff: the reference's answer is the program's. Condition: each theorem's own bounds. Huff: the reference's loops are the program's. Condition: each theorem's own bounds. PutPrefix, the reference's and the program's: the first byte, and the further ones as a list. Condition: each theorem's own bounds. The reference's PutPrefix comes to the same bytes as the program's. Condition: each theorem's own bounds. PutString: what it comes to, the reference's and the program's. Condition: each theorem's own bounds. GetPrefix, the program's: what is read of the bytes that PutPrefix puts. Condition: each theorem's own bounds. The draws: what a cursor gives lies in its range, and it stays a cursor. Condition: each theorem's own bounds. Drawn numbers out of a list, and drawn bytes. Condition: each theorem's own bounds. Drawn texts. Condition: each theorem's own bounds. -/
import Derived.Test.YthflimnpiglgbaaDoorWMore
import Derived.Test.YthflimnpiglgbaaDoorLibK
import Derived.Test.YthflimnpiglgbaaDoorLibK2
import Derived.Test.YthflimnpiglgbaaDoorLibBits
import Derived.Test.YthflimnpiglgbaaDoorAx1
import Derived.Test.YthflimnpiglgbaaDoorAx5
import Derived.Test.YthflimnpiglgbaaDoorAx9
import Derived.Test.YthflimnpiglgbaaDoorAx10
import Derived.Test.YthflimnpiglgbaaDoorAx15
import Derived.Test.YthflimnpiglgbaaDoorAx16
import Derived.Test.YthflimnpiglgbaaDoorAx17
import Derived.Test.YthflimnpiglgbaaDoorAx18
import Derived.Test.YthflimnpiglgbaaDoorAx20
import Derived.Test.YthflimnpiglgbaaDoorAx21
import Derived.Test.YthflimnpiglgbaaDoorAx24
import Derived.Test.YthflimnpiglgbaaDoorAx25
import Derived.Test.YthflimnpiglgbaaDoorAx29
import Derived.Test.YthflimnpiglgbaaDoorAx30
import Derived.Test.YthflimnpiglgbaaDoorAx31
import Derived.Test.YthflimnpiglgbaaDoorAx32
import Derived.Test.YthflimnpiglgbaaDoorAx33
import Derived.Test.YthflimnpiglgbaaDoorAx36
set_option linter.unusedVariables false
set_option linter.unusedSimpArgs false
namespace Go.Proofs.YthflimnpiglgbaaDoor.LibU
open Go.RowKit Go.Proofs.YthflimnpiglgbaaDoor.A Go.Proofs.YthflimnpiglgbaaDoorW.PrintWords Go.Proofs.YthflimnpiglgbaaDoorW.PrintLast Go.Proofs.YthflimnpiglgbaaDoorW.PrintMore
theorem w64 {x : Int} (h0 : -9223372036854775808 ≤ x) (h1 : x ≤ 9223372036854775807) : wrap64 x = x := by unfold wrap64; omega
theorem u64_nn (x : Int) : 0 ≤ IntKind.u64.wrap x := by
  unfold IntKind.wrap
  simp only [IntKind.signed, IntKind.bits, Bool.false_and]
  simp only [Bool.false_eq_true, if_false]
  omega
theorem ix {k : Nat} (h : 0 < k) : ∃ m, k = m + 1 := ⟨k - 1, by omega⟩
/-- One callee's answer, and what follows. -/
theorem bs {α β : Type} {o : Option α} {a : α} {f : α → Option β} {r : Option β} (h : o = some a) (h' : f a = r) : o.bind f = r := by rw [h]; exact h'
theorem ifp {α : Type} {c : Prop} [Decidable c] {a b r : α} (h : c) (h' : a = r) : (if c then a else b) = r := by rw [if_pos h]; exact h'
theorem ifn {α : Type} {c : Prop} [Decidable c] {a b r : α} (h : ¬ c) (h' : b = r) : (if c then a else b) = r := by rw [if_neg h]; exact h'
theorem rd_nat (l : List Int) (i : Nat) : rd l (i : Int) = l.getD i 0 := by simp [rd]
theorem wf64 {a : Int} (h : (Lit.int .i64 a).wf = true) : -9223372036854775808 ≤ a ∧ a ≤ 9223372036854775807 := by
  simp only [Lit.wf, IntKind.min, IntKind.max, IntKind.signed, IntKind.bits, Bool.and_eq_true, decide_eq_true_eq, if_true] at h
  omega
theorem wf8 {a : Int} (h : (Lit.int .u8 a).wf = true) : 0 ≤ a ∧ a ≤ 255 := by
  simp only [Lit.wf, IntKind.min, IntKind.max, IntKind.signed, IntKind.bits, Bool.and_eq_true, decide_eq_true_eq, if_true, Bool.false_eq_true, if_false] at h
  omega
theorem inRange (a b c : Int) : impl_inRange.f a b c = some (decide (b ≤ a ∧ a ≤ c)) := by
  unfold impl_inRange.f
  by_cases h : a ≥ b
  · rw [if_pos h]; congr 1; simp only [decide_eq_decide]; omega
  · rw [if_neg h]; congr 1; symm; simp only [decide_eq_false_iff_not]; omega
end Go.Proofs.YthflimnpiglgbaaDoor.LibU
namespace Go.Proofs.YthflimnpiglgbaaDoor.LibU
open Go.RowKit Go.Proofs.YthflimnpiglgbaaDoor.A Go.Proofs.YthflimnpiglgbaaDoorW.PrintWords Go.Proofs.YthflimnpiglgbaaDoorW.PrintLast Go.Proofs.YthflimnpiglgbaaDoorW.PrintMore
theorem l1In (a b c : Int) : spec_l1In.f a b c = some (decide (b ≤ a ∧ a ≤ c)) := by
  unfold spec_l1In.f
  by_cases h : a ≥ b
  · rw [if_pos h]; congr 1; simp only [decide_eq_decide]; omega
  · rw [if_neg h]; congr 1; symm; simp only [decide_eq_false_iff_not]; omega
end Go.Proofs.YthflimnpiglgbaaDoor.LibU
namespace Go.Proofs.YthflimnpiglgbaaDoor.LibHc
open Go Go.RowKit Go.Proofs.YthflimnpiglgbaaDoor.A Go.Proofs.YthflimnpiglgbaaDoorW.PrintWords Go.Proofs.YthflimnpiglgbaaDoorW.PrintLast Go.Proofs.YthflimnpiglgbaaDoorW.PrintMore Go.Proofs.YthflimnpiglgbaaDoor.LibU Go.Proofs.YthflimnpiglgbaaDoor.LibLens Go.Proofs.YthflimnpiglgbaaDoor.LibHuff Go.Proofs.YthflimnpiglgbaaDoor.LibHuffB Go.Proofs.YthflimnpiglgbaaDoor.LibWrap
theorem l1In (a b c : Int) : spec_l1In.f a b c = some (decide (b ≤ a ∧ a ≤ c)) := by
  unfold spec_l1In.f
  by_cases h : a ≥ b
  · rw [if_pos h]; congr 1; simp only [decide_eq_decide]; omega
  · rw [if_neg h]; congr 1; symm; simp only [decide_eq_false_iff_not]; omega
theorem lens : spec_l3Lens.f = some lensI := rfl
set_option maxRecDepth 100000 in
theorem codes0 : spec_l3Codes.f 8100 = some bitsI := by decide +kernel
theorem codes (k : Nat) (hk : 8100 ≤ k) : spec_l3Codes.f k = some bitsI := at_rounds spec_l3Codes.mono hk codes0
end Go.Proofs.YthflimnpiglgbaaDoor.LibHc
namespace Go.Proofs.YthflimnpiglgbaaDoor.LibUh
open Go Go.RowKit Go.Proofs.YthflimnpiglgbaaDoor.A Go.Proofs.YthflimnpiglgbaaDoorW.PrintWords Go.Proofs.YthflimnpiglgbaaDoorW.PrintLast Go.Proofs.YthflimnpiglgbaaDoorW.PrintMore Go.Proofs.YthflimnpiglgbaaDoor.LibLens Go.Proofs.YthflimnpiglgbaaDoor.LibHuff Go.Proofs.YthflimnpiglgbaaDoor.LibHuffB Go.Proofs.YthflimnpiglgbaaDoor.LibMap Go.Proofs.YthflimnpiglgbaaDoor.LibUnH Go.Proofs.YthflimnpiglgbaaDoor.LibHp Go.Proofs.YthflimnpiglgbaaDoor.LibBits Go.Proofs.YthflimnpiglgbaaDoor.LibHb Go.Proofs.YthflimnpiglgbaaDoor.LibHf
theorem bs {α β : Type} {o : Option α} {a : α} {f : α → Option β} {r : Option β} (h : o = some a) (h' : f a = r) : o.bind f = r := by rw [h]; exact h'
/-- One bit more. -/
theorem or_bit (acc n d : Nat) (hd : d < 2) (ha : acc < 2 ^ n) (hn : n ≤ 30) : Go.bits .or .i64 (wrap64 ((acc : Int) * 2)) (d : Int) = ((2 * acc + d : Nat) : Int) ∧ 2 * acc + d < 2 ^ (n + 1) := by
  have hp : (2 : Nat) ^ n ≤ 2 ^ 30 := Nat.pow_le_pow_right (by omega) hn
  have e : wrap64 ((acc : Int) * 2) = ((acc * 2 ^ 1 : Nat) : Int) := by rw [w64 (by omega) (by omega)]; omega
  refine ⟨?_, by rw [Nat.pow_succ]; omega⟩
  rw [e, or_nat acc d 1 (by omega) (by omega) (by omega)]
  congr 1
  omega
/-- What the row's bits are, as bytes of a text. -/
def toI (js : List Nat) : List Int := js.map fun j => ((j : Nat) : Int)
/-- The reference's loop over bits. -/
def su : List Int → Nat → Nat → List Int → ByteArray × Bool
  | [], acc, n, out => if n > 7 then (⟨#[]⟩, false) else if acc = 2 ^ n - 1 then (strOfNums out, true) else (⟨#[]⟩, false)
  | d :: ds, acc, n, out =>
    if n + 1 > 30 then (⟨#[]⟩, false) else
    match lookC (((2 * acc + d.toNat : Nat) : Int), ((n + 1 : Nat) : Int)) with
    | some j => if j = 256 then su ds (2 * acc + d.toNat) (n + 1) out else su ds 0 0 (out ++ [(j : Int)])
    | none => su ds (2 * acc + d.toNat) (n + 1) out
theorem su_over (ds : List Int) (acc : Nat) (out : List Int) : su ds acc 30 out = (⟨#[]⟩, false) := by
  cases ds with
  | nil => simp only [su]; rw [if_pos (by omega)]
  | cons d ds => rw [su, if_pos (by omega)]
/-- Decoding: what is there, what its codes are, and what is left; and what the reference says of it. -/
theorem dec (ds : List Int) : ∀ (acc n : Nat) (out : List Int), (∀ d ∈ ds, d = 0 ∨ d = 1) → acc < 2 ^ n → n ≤ 30 →
    ∃ (js : List Nat) (rest : List Int), (∀ j ∈ js, j < 256) ∧ uh ds (acc : Int) (n : Int) out = out ++ toI js ∧ nb acc n ++ ds = cbs js ++ rest ∧
      ((rest = List.replicate rest.length 1 ∧ rest.length ≤ 7 ∧ su ds acc n out = (strOfNums (out ++ toI js), true)) ∨ (¬ (rest = List.replicate rest.length 1 ∧ rest.length ≤ 7) ∧ su ds acc n out = (⟨#[]⟩, false))) := by
  induction ds with
  | nil =>
    intro acc n out hd ha hn
    refine ⟨[], nb acc n, by simp, by simp [uh, toI], by simp [cbs], ?_⟩
    rw [nb_len]
    by_cases h7 : n > 7
    · right
      exact ⟨fun h => by omega, by simp [su, h7]⟩
    · by_cases he : acc = 2 ^ n - 1
      · left
        refine ⟨by rw [he, nb_ones], by omega, ?_⟩
        simp only [su]
        rw [if_neg h7, if_pos he]
        simp [toI]
      · right
        refine ⟨fun h => he ?_, ?_⟩
        · have hpos : 0 < 2 ^ n := Nat.pow_pos (by omega)
          exact nb_inj n acc (2 ^ n - 1) ha (by omega) (by rw [nb_ones]; exact h.1)
        · simp only [su]
          rw [if_neg h7, if_neg he]
  | cons d ds ih =>
    intro acc n out hd ha hn
    obtain ⟨b, hb⟩ : ∃ b : Nat, d = (b : Int) := ⟨d.toNat, by rcases hd d (List.mem_cons_self ..) with h | h <;> omega⟩
    have hb2 : b < 2 := by rcases hd d (List.mem_cons_self ..) with h | h <;> omega
    subst hb
    have hd' : ∀ d ∈ ds, d = 0 ∨ d = 1 := fun x hx => hd x (List.mem_cons_of_mem _ hx)
    obtain ⟨e1, e2⟩ := or_bit acc n b hb2 ha hn
    have e3 : wrap64 ((n : Int) + 1) = ((n + 1 : Nat) : Int) := by rw [w64 (by omega) (by omega)]; omega
    have eb : nb acc n ++ (b : Int) :: ds = nb (2 * acc + b) (n + 1) ++ ds := by rw [nb_snoc acc b n hb2, List.append_assoc]; rfl
    cases hlk : lookC (((2 * acc + b : Nat) : Int), ((n + 1 : Nat) : Int)) with
    | none =>
      rw [uh, e1, e3, hlk]
      simp only
      by_cases h30 : ((n + 1 : Nat) : Int) > 30
      · rw [if_pos h30]
        refine ⟨[], nb acc n ++ (b : Int) :: ds, by simp, by simp [toI], by simp [cbs], .inr ⟨fun h => ?_, ?_⟩⟩
        · have := h.2
          simp only [List.length_append, nb_len, List.length_cons] at this
          omega
        · have : n = 30 := by omega
          subst this
          exact su_over _ _ _
      · rw [if_neg h30]
        obtain ⟨js, rest, g1, g2, g3, g4⟩ := ih (2 * acc + b) (n + 1) out hd' e2 (by omega)
        refine ⟨js, rest, g1, g2, by rw [eb]; exact g3, ?_⟩
        have es : su ((b : Int) :: ds) acc n out = su ds (2 * acc + b) (n + 1) out := by
          rw [su, if_neg (by omega), Int.toNat_natCast, hlk]
        rw [es]
        exact g4
    | some j =>
      rw [uh, e1, e3, hlk]
      simp only
      obtain ⟨hj, hq⟩ := look_some hlk
      simp only [Prod.mk.injEq] at hq
      have hbd := bnds hj
      have hn1 : n + 1 = cs j := by omega
      have ha1 : 2 * acc + b = cb j := by omega
      by_cases h256 : j = 256
      · rw [if_pos h256]
        have h30 : n + 1 = 30 := by rw [hn1, h256, eos.2]
        refine ⟨[], nb acc n ++ (b : Int) :: ds, by simp, by simp [toI], by simp [cbs], .inr ⟨fun h => ?_, ?_⟩⟩
        · have := h.2
          simp only [List.length_append, nb_len, List.length_cons] at this
          omega
        · rw [su, if_neg (by omega), Int.toNat_natCast, hlk]
          simp only
          rw [if_pos h256, h30]
          exact su_over _ _ _
      · rw [if_neg h256, if_neg (by omega)]
        have ej : ((j : Int)) % 256 = (j : Int) := by omega
        rw [ej]
        obtain ⟨js, rest, g1, g2, g3, g4⟩ := ih 0 0 (out ++ [(j : Int)]) hd' (by omega) (by omega)
        refine ⟨j :: js, rest, ?_, ?_, ?_, ?_⟩
        · intro x hx
          rcases List.mem_cons.1 hx with rfl | hx
          · omega
          · exact g1 x hx
        · rw [show ((0 : Nat) : Int) = 0 from rfl] at g2
          rw [g2]
          simp [toI]
        · rw [eb, cbs_cons, ha1, hn1, List.append_assoc, ← g3]
          simp [nb]
        · have es : su ((b : Int) :: ds) acc n out = su ds 0 0 (out ++ [(j : Int)]) := by
            rw [su, if_neg (by omega), Int.toNat_natCast, hlk]
            simp only
            rw [if_neg h256]
          rw [es]
          have et : out ++ [(j : Int)] ++ toI js = out ++ toI (j :: js) := by simp [toI]
          rw [et] at g4
          exact g4
/-! The way back -/
theorem uh_some {d : Int} {ds : List Int} {acc n : Int} {out : List Int} {j : Nat} (h : lookC (Go.bits .or .i64 (wrap64 (acc * 2)) d, wrap64 (n + 1)) = some j) (hj : ¬ j = 256) (hn : ¬ wrap64 (n + 1) > 30) : uh (d :: ds) acc n out = uh ds 0 0 (out ++ [(j : Int) % 256]) := by
  rw [uh, h]
  exact (if_neg hj).trans (if_neg hn)
theorem uh_none {d : Int} {ds : List Int} {acc n : Int} {out : List Int} (h : lookC (Go.bits .or .i64 (wrap64 (acc * 2)) d, wrap64 (n + 1)) = none) (hn : ¬ wrap64 (n + 1) > 30) : uh (d :: ds) acc n out = uh ds (Go.bits .or .i64 (wrap64 (acc * 2)) d) (wrap64 (n + 1)) out := by
  rw [uh, h]
  exact if_neg hn
theorem uh_code {j : Nat} (hj : j < 256) (d : Nat) : ∀ (p : Nat) (ds out : List Int), p ≤ cs j → cs j - p = d → p < cs j →
    uh (nb (cb j) (cs j - p) ++ ds) ((cb j / 2 ^ (cs j - p) : Nat) : Int) (p : Int) out = uh ds 0 0 (out ++ [(j : Int)]) := by
  have hbd := bnds (i := j) (by omega)
  induction d with
  | zero => intro p ds out h1 h2 h3; omega
  | succ d ih =>
    intro p ds out h1 h2 h3
    have hc : cs j - p = (cs j - (p + 1)) + 1 := by omega
    have hlt : cb j / 2 ^ (cs j - p) < 2 ^ p := by
      refine Nat.div_lt_of_lt_mul ?_
      rw [← Nat.pow_add]
      have : cs j - p + p = cs j := by omega
      rw [this]
      exact hbd.2.2
    obtain ⟨e1, e2⟩ := or_bit (cb j / 2 ^ (cs j - p)) p (cb j / 2 ^ (cs j - (p + 1)) % 2) (Nat.mod_lt _ (by omega)) hlt (by omega)
    have e3 : wrap64 ((p : Int) + 1) = ((p + 1 : Nat) : Int) := by rw [w64 (by omega) (by omega)]; omega
    have e4 : 2 * (cb j / 2 ^ (cs j - p)) + cb j / 2 ^ (cs j - (p + 1)) % 2 = cb j / 2 ^ (cs j - (p + 1)) := by
      have : cb j / 2 ^ (cs j - p) = cb j / 2 ^ (cs j - (p + 1)) / 2 := by rw [hc, Nat.pow_succ, Nat.div_div_eq_div_mul]
      rw [this]
      omega
    rw [e4] at e1
    have en : nb (cb j) (cs j - p) = ((cb j / 2 ^ (cs j - (p + 1)) % 2 : Nat) : Int) :: nb (cb j) (cs j - (p + 1)) := by rw [hc]; rfl
    rw [en, List.cons_append]
    clear e4 e2 hlt hc en
    by_cases hlast : p + 1 = cs j
    · have hk := look_code (j := j) (by omega)
      have n1 : ¬ j = 256 := by omega
      have n2 : ¬ ((cs j : Nat) : Int) > 30 := by omega
      have ej : ((j : Int)) % 256 = (j : Int) := by omega
      have e5 : cb j / 2 ^ (cs j - (p + 1)) = cb j := by rw [hlast, Nat.sub_self, Nat.pow_zero, Nat.div_one]
      have hs := uh_some (d := ((cb j / 2 ^ (cs j - (p + 1)) % 2 : Nat) : Int)) (ds := nb (cb j) (cs j - (p + 1)) ++ ds) (acc := ((cb j / 2 ^ (cs j - p) : Nat) : Int)) (n := (p : Int)) (out := out) (j := j) (by rw [e1, e3, e5, hlast]; exact hk) n1 (by rw [e3, hlast]; exact n2)
      rw [hs]
      rw [ej, hlast, Nat.sub_self, show nb (cb j) 0 = [] from rfl, List.nil_append]
    · have hk := look_pre (j := j) (p := p + 1) (by omega) (by omega)
      have n2 : ¬ ((p + 1 : Nat) : Int) > 30 := by omega
      have hs := uh_none (d := ((cb j / 2 ^ (cs j - (p + 1)) % 2 : Nat) : Int)) (ds := nb (cb j) (cs j - (p + 1)) ++ ds) (acc := ((cb j / 2 ^ (cs j - p) : Nat) : Int)) (n := (p : Int)) (out := out) (by rw [e1, e3]; exact hk) (by rw [e3]; exact n2)
      rw [hs, e1, e3]
      exact ih (p + 1) ds out (by omega) (by omega) (by omega)
theorem uh_codes : ∀ (js : List Nat), (∀ j ∈ js, j < 256) → ∀ (ds out : List Int), uh (cbs js ++ ds) 0 0 out = uh ds 0 0 (out ++ toI js)
  | [], _, ds, out => by simp [cbs, toI]
  | j :: js, h, ds, out => by
    have hj := h j (List.mem_cons_self ..)
    have hbd := bnds (i := j) (by omega)
    have h1 := uh_code hj (cs j) 0 (cbs js ++ ds) out (by omega) (by omega) (by omega)
    have e0 : ((0 : Nat) : Int) = 0 := rfl
    rw [Nat.sub_zero, Nat.div_eq_of_lt hbd.2.2, e0] at h1
    rw [cbs_cons, List.append_assoc, h1]
    rw [uh_codes js (fun x hx => h x (List.mem_cons_of_mem _ hx))]
    simp [toI]
theorem uh_ones (k : Nat) : ∀ (n : Nat) (out : List Int), n + k ≤ 8 → uh (List.replicate k 1) ((2 ^ n - 1 : Nat) : Int) (n : Int) out = out := by
  induction k with
  | zero => intro n out h; rfl
  | succ k ih =>
    intro n out h
    have hpos : 0 < 2 ^ n := Nat.pow_pos (by omega)
    obtain ⟨e1, e2⟩ := or_bit (2 ^ n - 1) n 1 (by omega) (by omega) (by omega)
    have e3 : wrap64 ((n : Int) + 1) = ((n + 1 : Nat) : Int) := by rw [w64 (by omega) (by omega)]; omega
    have e4 : 2 * (2 ^ n - 1) + 1 = 2 ^ (n + 1) - 1 := by rw [Nat.pow_succ]; omega
    rw [e4] at e1
    have e5 : ((1 : Nat) : Int) = 1 := rfl
    rw [e5] at e1
    have n2 : ¬ ((n + 1 : Nat) : Int) > 30 := by omega
    have hk := look_ones (p := n + 1) (by omega)
    have hs := uh_none (d := 1) (ds := List.replicate k 1) (acc := ((2 ^ n - 1 : Nat) : Int)) (n := (n : Int)) (out := out) (by rw [e1, e3]; exact hk) (by rw [e3]; exact n2)
    rw [List.replicate_succ, hs, e1, e3]
    exact ih (n + 1) out (by omega)
theorem uh_huff (js : List Nat) (h : ∀ j ∈ js, j < 256) (p : Nat) (hp : p < 8) : uh (cbs js ++ List.replicate p 1) 0 0 [] = toI js := by
  rw [uh_codes js h]
  have h1 := uh_ones p 0 ([] ++ toI js) (by omega)
  have e0 : ((2 ^ 0 - 1 : Nat) : Int) = 0 := rfl
  rw [e0, List.nil_append] at h1
  rw [List.nil_append]
  exact h1
end Go.Proofs.YthflimnpiglgbaaDoor.LibUh
namespace Go.Proofs.YthflimnpiglgbaaDoor.LibUx
open Go Go.RowKit Go.Proofs.YthflimnpiglgbaaDoor.A Go.Proofs.YthflimnpiglgbaaDoorW.PrintWords Go.Proofs.YthflimnpiglgbaaDoorW.PrintLast Go.Proofs.YthflimnpiglgbaaDoorW.PrintMore Go.Proofs.YthflimnpiglgbaaDoor.LibLens Go.Proofs.YthflimnpiglgbaaDoor.LibHuff Go.Proofs.YthflimnpiglgbaaDoor.LibHuffB Go.Proofs.YthflimnpiglgbaaDoor.LibMap Go.Proofs.YthflimnpiglgbaaDoor.LibUnH Go.Proofs.YthflimnpiglgbaaDoor.LibHp Go.Proofs.YthflimnpiglgbaaDoor.LibBits Go.Proofs.YthflimnpiglgbaaDoor.LibHb Go.Proofs.YthflimnpiglgbaaDoor.LibHf Go.Proofs.YthflimnpiglgbaaDoor.LibUh Go.Proofs.YthflimnpiglgbaaDoor.LibWrap2
/-- What the reference's look-up says. -/
def tgt (o : Option Nat) : Int := match o with | some j => if j = 256 then -1 else (j : Int) | none => -1
theorem find_l (acc n : Nat) (o : Option Nat) (ho : lookC ((acc : Int), (n : Int)) = o) (d : Nat) : ∀ (k x : Nat), x ≤ 256 → 256 - x = d → d < k → (∀ i, i < x → ¬ (cb i = acc ∧ cs i = n)) → spec_l3Find.l0 k lensI bitsI (n : Int) (acc : Int) (x : Int) = some (tgt o) := by
  have hll := lensI_len
  have hbl := bitsI_len
  induction d with
  | zero =>
    intro k x hx hd hk h
    obtain ⟨k, rfl⟩ := LibHf.ix (show 0 < k by omega)
    have ht : tgt o = -1 := by
      cases o with
      | none => rfl
      | some j =>
        obtain ⟨hj, hq⟩ := look_some ho
        simp only [Prod.mk.injEq] at hq
        have : j = 256 := by
          by_cases hj2 : j < x
          · exact absurd ⟨by omega, by omega⟩ (h j hj2)
          · omega
        exact if_pos this
    simp only [spec_l3Find.l0]
    rw [if_neg (by omega), ht]
  | succ d ih =>
    intro k x hx hd hk h
    obtain ⟨k, rfl⟩ := LibHf.ix (show 0 < k by omega)
    have hla := lens_at (i := (x : Int)) (by omega) (by omega)
    rw [Int.toNat_natCast] at hla
    simp only [spec_l3Find.l0]
    rw [hla.1, hla.2, if_pos (by omega), if_pos (by omega), if_pos (by omega), w64 (by omega) (by omega)]
    by_cases h1 : (cs x : Int) = (n : Int)
    · rw [if_pos h1, if_pos (by omega)]
      by_cases h2 : (cb x : Int) = (acc : Int)
      · have hk2 := look_code (j := x) (by omega)
        rw [h1, h2, ho] at hk2
        have ht : tgt o = (x : Int) := by
          rw [hk2]
          exact if_neg (by omega)
        rw [if_pos h2, ht]
      · rw [if_neg h2]
        exact ih k (x + 1) (by omega) (by omega) (by omega) (fun i hi hq => by
          by_cases hix : i = x
          · subst hix; exact h2 (by omega)
          · exact h i (by omega) hq)
    · rw [if_neg h1]
      exact ih k (x + 1) (by omega) (by omega) (by omega) (fun i hi hq => by
          by_cases hix : i = x
          · subst hix; exact h1 (by omega)
          · exact h i (by omega) hq)
theorem find (acc n k : Nat) (o : Option Nat) (ho : lookC ((acc : Int), (n : Int)) = o) (hk : 257 ≤ k) : spec_l3Find.f k lensI bitsI (n : Int) (acc : Int) = some (tgt o) := by
  unfold spec_l3Find.f
  exact find_l acc n o ho 256 k 0 (by omega) (by omega) (by omega) (fun i hi => by omega)
theorem su_high {b : Nat} {ds : List Int} {acc n : Nat} {out : List Int} (h : n + 1 > 30) : su ((b : Int) :: ds) acc n out = (⟨#[]⟩, false) := by
  rw [su, if_pos h]
theorem su_none {b : Nat} {ds : List Int} {acc n : Nat} {out : List Int} (h : ¬ n + 1 > 30) (ho : lookC (((2 * acc + b : Nat) : Int), ((n + 1 : Nat) : Int)) = none) : su ((b : Int) :: ds) acc n out = su ds (2 * acc + b) (n + 1) out := by
  rw [su, if_neg h, Int.toNat_natCast, ho]
theorem su_eos {b : Nat} {ds : List Int} {acc n : Nat} {out : List Int} {j : Nat} (h : ¬ n + 1 > 30) (ho : lookC (((2 * acc + b : Nat) : Int), ((n + 1 : Nat) : Int)) = some j) (hj : j = 256) : su ((b : Int) :: ds) acc n out = su ds (2 * acc + b) (n + 1) out := by
  rw [su, if_neg h, Int.toNat_natCast, ho]
  exact if_pos hj
theorem su_some {b : Nat} {ds : List Int} {acc n : Nat} {out : List Int} {j : Nat} (h : ¬ n + 1 > 30) (ho : lookC (((2 * acc + b : Nat) : Int), ((n + 1 : Nat) : Int)) = some j) (hj : ¬ j = 256) : su ((b : Int) :: ds) acc n out = su ds 0 0 (out ++ [(j : Int)]) := by
  rw [su, if_neg h, Int.toNat_natCast, ho]
  exact if_neg hj
theorem byteBits_drop (x : Int) (n : Nat) : ∀ i, i < n → (byteBits x n).drop i = bit x ((n - 1 - i : Nat) : Int) :: (byteBits x n).drop (i + 1) := by
  induction n with
  | zero => intro i h; omega
  | succ n ih =>
    intro i h
    cases i with
    | zero => simp [byteBits]
    | succ i =>
      simp only [byteBits, List.drop_succ_cons]
      rw [ih i (by omega)]
      congr 3
      omega
theorem bits_drop : ∀ (l : List Int) (i : Nat), i < 8 * l.length → (listBits l).drop i = bit (rd l ((i / 8 : Nat) : Int)) ((7 - i % 8 : Nat) : Int) :: (listBits l).drop (i + 1)
  | [], i, h => by simp at h
  | x :: l, i, h => by
    have hb := byteBits_len x 8
    simp only [listBits]
    by_cases h8 : i < 8
    · have e1 : i / 8 = 0 := by omega
      have e2 : i % 8 = i := by omega
      rw [List.drop_append_of_le_length (by omega), List.drop_append_of_le_length (by omega), byteBits_drop x 8 i h8, e1, e2]
      first | done | simp [rd]
    · obtain ⟨j, rfl⟩ : ∃ j, i = 8 + j := ⟨i - 8, by omega⟩
      have e1 : (8 + j) / 8 = j / 8 + 1 := by omega
      have e2 : (8 + j) % 8 = j % 8 := by omega
      have e3 : ∀ m, (byteBits x 8 ++ listBits l).drop (8 + m) = (listBits l).drop m := fun m => by
        have h8 : (byteBits x 8 ++ listBits l).drop (byteBits x 8).length = listBits l := by simp
        rw [hb] at h8
        rw [← List.drop_drop, h8]
      have e4 : rd (x :: l) ((j / 8 + 1 : Nat) : Int) = rd l ((j / 8 : Nat) : Int) := by
        show (x :: l).getD ((j / 8 + 1 : Nat) : Int).toNat 0 = l.getD ((j / 8 : Nat) : Int).toNat 0
        rw [Int.toNat_natCast, Int.toNat_natCast]
        rfl
      rw [e3, show 8 + j + 1 = 8 + (j + 1) by omega, e3, bits_drop l j (by simp at h; omega), e1, e2, e4]
theorem spec_l (l : List Int) (hl : l.length ≤ 100000000) (hb : Bytes l) (d : Nat) : ∀ (k i acc n : Nat) (out : List Int), i ≤ 8 * l.length → 8 * l.length - i = d → d + 300 < k → acc < 2 ^ n → n ≤ 30 → out.length ≤ i →
    spec_UnHuff.l0 k l lensI bitsI out (acc : Int) (n : Int) (i : Int) = some (su ((listBits l).drop i) acc n out) := by
  have hbl := listBits_len l
  have hbb := listBits_bit l hb
  induction d with
  | zero =>
    intro k i acc n out hi hd hk ha hn ho
    obtain ⟨k, rfl⟩ := LibHf.ix (show 0 < k by omega)
    simp only [spec_UnHuff.l0]
    rw [w64 (x := 8 * (l.length : Int)) (by omega) (by omega), if_neg (by omega), List.drop_of_length_le (by omega), su]
    by_cases h7 : n > 7
    · rw [if_pos (by omega), if_pos h7]
    · have hp : (2 : Nat) ^ n ≤ 2 ^ 7 := Nat.pow_le_pow_right (by omega) (by omega)
      have hpos : 0 < 2 ^ n := Nat.pow_pos (by omega)
      have h1 := shl_nat 1 n (by omega) (by omega)
      rw [show ((1 : Nat) : Int) = 1 from rfl, Nat.one_mul] at h1
      rw [if_neg (by omega), if_neg h7, u64w (by omega) (by omega), if_pos (by omega), h1, w64 (by omega) (by omega)]
      by_cases he : acc = 2 ^ n - 1
      · rw [if_pos he, if_pos (by omega)]
      · rw [if_neg he, if_neg (by omega)]
  | succ d ih =>
    intro k i acc n out hi hd hk ha hn ho
    obtain ⟨k, rfl⟩ := LibHf.ix (show 0 < k by omega)
    have hdr := bits_drop l i (by omega)
    have hbit : bit (rd l ((i / 8 : Nat) : Int)) ((7 - i % 8 : Nat) : Int) = 0 ∨ bit (rd l ((i / 8 : Nat) : Int)) ((7 - i % 8 : Nat) : Int) = 1 := by
      refine hbb _ ?_
      have : bit (rd l ((i / 8 : Nat) : Int)) ((7 - i % 8 : Nat) : Int) ∈ (listBits l).drop i := by rw [hdr]; exact List.mem_cons_self ..
      exact List.mem_of_mem_drop this
    obtain ⟨b, hbt⟩ : ∃ b : Nat, bit (rd l ((i / 8 : Nat) : Int)) ((7 - i % 8 : Nat) : Int) = (b : Int) := ⟨_, (Int.toNat_of_nonneg (by rcases hbit with h | h <;> omega)).symm⟩
    have hb2 : b < 2 := by rcases hbit with h | h <;> omega
    obtain ⟨e1, e2⟩ := or_bit acc n b hb2 ha hn
    have e3 : wrap64 ((n : Int) + 1) = ((n + 1 : Nat) : Int) := by rw [w64 (by omega) (by omega)]; omega
    have t1 : wrap64 (Int.tdiv (i : Int) 8) = ((i / 8 : Nat) : Int) := by
      rw [Int.tdiv_eq_ediv_of_nonneg (by omega), w64 (by omega) (by omega)]
      omega
    have t2 : IntKind.u64.wrap (wrap64 (7 - Int.tmod (i : Int) 8)) = ((7 - i % 8 : Nat) : Int) := by
      rw [Int.tmod_eq_emod_of_nonneg (by omega), w64 (by omega) (by omega), u64w (by omega) (by omega)]
      omega
    have t3 : Go.bits .and .i64 (shr .i64 (wrap64 (rd l ((i / 8 : Nat) : Int))) ((7 - i % 8 : Nat) : Int)) 1 = (b : Int) := hbt
    simp only [spec_UnHuff.l0]
    rw [w64 (x := 8 * (l.length : Int)) (by omega) (by omega), if_pos (by omega), t1, t2, t3, e1, e3, if_pos (by omega), if_pos (by omega), if_pos (by omega), w64 (x := (i : Int) + 1) (by omega) (by omega), hdr, hbt]
    have ei : (i : Int) + 1 = ((i + 1 : Nat) : Int) := rfl
    rw [ei]
    have hk257 : 257 ≤ k := by omega
    have hi1 : i + 1 ≤ 8 * l.length := by omega
    have hd1 : 8 * l.length - (i + 1) = d := by omega
    have hk1 : d + 300 < k := by omega
    have ho1 : out.length ≤ i + 1 := by omega
    have hcap : out.length < 140737488355328 := by omega
    clear hdr hbit hbt t1 t2 t3
    by_cases h30 : n + 1 > 30
    · have c30 : ((n + 1 : Nat) : Int) > 30 := Int.ofNat_lt.2 h30
      rw [su_high h30]
      exact if_pos c30
    · have c30 : ¬ ((n + 1 : Nat) : Int) > 30 := fun h => h30 (Int.ofNat_lt.1 h)
      rw [if_neg c30]
      cases hlk : lookC (((2 * acc + b : Nat) : Int), ((n + 1 : Nat) : Int)) with
      | none =>
        rw [su_none h30 hlk]
        refine bs (find (2 * acc + b) (n + 1) k none hlk hk257) ?_
        have hn1 : ¬ tgt none ≥ 0 := by decide
        rw [if_neg hn1]
        exact ih k (i + 1) (2 * acc + b) (n + 1) out hi1 hd1 hk1 e2 (Nat.le_of_not_lt h30) ho1
      | some j =>
        obtain ⟨hj, _⟩ := look_some hlk
        by_cases h256 : j = 256
        · rw [su_eos h30 hlk h256]
          refine bs (find (2 * acc + b) (n + 1) k (some j) hlk hk257) ?_
          have hn1 : ¬ tgt (some j) ≥ 0 := by rw [h256]; decide
          rw [if_neg hn1]
          exact ih k (i + 1) (2 * acc + b) (n + 1) out hi1 hd1 hk1 e2 (Nat.le_of_not_lt h30) ho1
        · rw [su_some h30 hlk h256]
          refine bs (find (2 * acc + b) (n + 1) k (some j) hlk hk257) ?_
          have ht : tgt (some j) = (j : Int) := if_neg h256
          have hj0 : (j : Int) ≥ 0 := Int.natCast_nonneg _
          have hj1 : ((j : Int)) % 256 = (j : Int) := Int.emod_eq_of_lt hj0 (by have := hj; omega)
          have ho2 : (out ++ [(j : Int)]).length ≤ i + 1 := by rw [List.length_append]; exact Nat.succ_le_succ ho
          rw [ht, if_pos hj0, if_pos hcap, hj1]
          exact ih k (i + 1) 0 0 (out ++ [(j : Int)]) hi1 hd1 hk1 (Nat.pow_pos (by decide)) (Nat.zero_le _) ho2
theorem spec_un (l : List Int) (hl : l.length ≤ 100000000) (hb : Bytes l) : ∀ k, 8 * l.length + 9000 ≤ k → spec_UnHuff.f k l = some (su (listBits l) 0 0 []) := by
  intro k hk
  unfold spec_UnHuff.f
  refine bs LibHc.lens ?_
  refine bs (LibHc.codes k (by omega)) ?_
  exact spec_l l hl hb (8 * l.length) k 0 0 0 [] (by omega) (by omega) (by omega) (by omega) (by omega) (by simp)
/-! The program's -/
theorem syms_str (js : List Nat) (h : ∀ j ∈ js, j < 256) : syms (strOfNums (toI js)) = js := by
  unfold syms
  rw [strOfNums_data]
  unfold toI
  rw [List.map_map, List.map_map]
  conv => rhs; rw [← List.map_id js]
  apply List.map_congr_left
  intro j hj
  have := h j hj
  simp
  omega
theorem bytesOf_inj : ∀ (a b : List Int), Bytes a → Bytes b → Lib.bytesOf a = Lib.bytesOf b → a = b
  | [], [], _, _, _ => rfl
  | [], _ :: _, _, _, h => by simp [Lib.bytesOf] at h
  | _ :: _, [], _, _, h => by simp [Lib.bytesOf] at h
  | x :: a, y :: b, ha, hb, h => by
    have hx := ha x (List.mem_cons_self ..)
    have hy := hb y (List.mem_cons_self ..)
    simp only [Lib.bytesOf, List.map_cons, List.cons.injEq] at h
    have e := bytesOf_inj a b (fun z hz => ha z (List.mem_cons_of_mem _ hz)) (fun z hz => hb z (List.mem_cons_of_mem _ hz)) h.2
    have e2 : x = y := by
      have h1 := congrArg UInt8.toNat h.1
      simp at h1
      omega
    rw [e, e2]
theorem cbs_len (js : List Nat) (h : ∀ j ∈ js, j < 256) : 5 * js.length ≤ (cbs js).length := by
  induction js with
  | nil => simp [cbs]
  | cons j js ih =>
    have hj := bnds (i := j) (by have := h j (List.mem_cons_self ..); omega)
    rw [cbs_cons, List.length_append, nb_len, List.length_cons]
    have := ih (fun x hx => h x (List.mem_cons_of_mem _ hx))
    omega
theorem both (l : List Int) (hl : l.length ≤ 100000000) (hb : Bytes l) : ∃ (K : Nat) (r : ByteArray × Bool) (js : List Nat) (rest : List Int), (∀ j ∈ js, j < 256) ∧ listBits l = cbs js ++ rest ∧ (r = (strOfNums (toI js), true) ∨ r = (⟨#[]⟩, false)) ∧ (r.2 = true → r.1 = strOfNums (toI js) ∧ rest = List.replicate rest.length 1 ∧ rest.length ≤ 7) ∧ (r.2 = true → ∀ k, K ≤ k → hf0 k r.1 lensI bitsI [] 0 0 0 = some l) ∧
    (∀ k, K ≤ k → spec_UnHuff.f k l = some r) ∧ (∀ k, K ≤ k → unF k l = some r) := by
  obtain ⟨js, rest, g1, g2, g3, g4⟩ := dec (listBits l) 0 0 [] (listBits_bit l hb) (by omega) (by omega)
  rw [List.nil_append] at g2
  simp only [nb, List.nil_append] at g3 g4
  have h0 : ((0 : Nat) : Int) = 0 := rfl
  rw [h0] at g2
  have hjl := cbs_len js g1
  have hll := listBits_len l
  have hlen := congrArg List.length g3
  rw [List.length_append, hll] at hlen
  obtain ⟨K, r, p, f1, f2, f3, f4, f5⟩ := huff_bits (strOfNums (toI js)) (by rw [strOfNums_size]; simp [toI]; omega) [] (by intro x hx; cases hx) (by simp)
  rw [syms_str js g1] at f3
  simp only [listBits, List.nil_append] at f3
  have hsp := spec_un l hl hb
  have hun : ∀ k, K ≤ k → unF k l = some (if (Lib.bytesOf r == Lib.bytesOf l) = true then (strOfNums (toI js), true) else (⟨#[]⟩, false)) := by
    intro k hk
    unfold unF
    rw [if_pos (by omega), g2]
    exact bs (f5 k hk) rfl
  rcases g4 with ⟨h1, h2, h3⟩ | ⟨h1, h2⟩
  · refine ⟨K + 8 * l.length + 9000, (strOfNums (toI js), true), js, rest, g1, g3, .inl rfl, fun _ => ⟨rfl, h1, h2⟩, fun _ k hk => ?_, fun k hk => ?_, fun k hk => ?_⟩
    · have hrl := listBits_len r
      have hrlen := congrArg List.length f3
      rw [List.length_append, List.length_replicate, hrl] at hrlen
      have hp : p = rest.length := by omega
      have : r = l := listBits_inj r l f2 hb (by rw [f3, hp, ← h1, ← g3])
      rw [← this]
      exact f5 k (by omega)
    · rw [hsp k (by omega)]; exact congrArg some h3
    · have hrl := listBits_len r
      have hrlen := congrArg List.length f3
      rw [List.length_append, List.length_replicate, hrl] at hrlen
      have hp : p = rest.length := by omega
      have : r = l := listBits_inj r l f2 hb (by rw [f3, hp, ← h1, ← g3])
      rw [hun k (by omega), this, if_pos (by simp)]
  · refine ⟨K + 8 * l.length + 9000, (⟨#[]⟩, false), js, rest, g1, g3, .inr rfl, (fun h => by cases h), (fun h => by cases h), fun k hk => ?_, fun k hk => ?_⟩
    · rw [hsp k (by omega), h2]
    · rw [hun k (by omega), if_neg]
      intro he
      have hrl : r = l := bytesOf_inj r l f2 hb (by simpa using he)
      rw [hrl, g3] at f3
      have e := List.append_cancel_left f3
      exact h1 ⟨by rw [e]; simp, by rw [e, List.length_replicate]; omega⟩
/-- The way back. -/
theorem back (s : ByteArray) (hs : s.size ≤ 10000000) : ∃ (K : Nat) (r : List Int), Bytes r ∧ (r.length : Int) = hlen s ∧ (∀ k, K ≤ k → hf0 k s lensI bitsI [] 0 0 0 = some r) ∧ (∀ k, K ≤ k → unF k r = some (s, true)) := by
  obtain ⟨K, r, p, f1, f2, f3, f4, f5⟩ := huff_bits s (by omega) [] (by intro x hx; cases hx) (by simp)
  simp only [listBits, List.nil_append] at f3
  have hu : uh (listBits r) 0 0 [] = toI (syms s) := by rw [f3]; exact uh_huff (syms s) (syms_lt s) p f1
  have hst : strOfNums (toI (syms s)) = s := by
    apply bytes_ext
    rw [strOfNums_data]
    unfold toI syms
    rw [List.map_map, List.map_map]
    conv => rhs; rw [← List.map_id s.data.toList]
    apply List.map_congr_left
    intro b _
    simp
  have hrl := listBits_len r
  have hrlen := congrArg List.length f3
  rw [List.length_append, List.length_replicate, hrl] at hrlen
  have hh := hlen_bits s (by omega)
  refine ⟨K, r, f2, by rw [hh]; omega, f5, fun k hk => ?_⟩
  unfold unF
  have hsl := f4
  simp at hsl
  rw [if_pos (by omega), hu, hst]
  refine bs (f5 k hk) ?_
  rw [if_pos (by simp)]
end Go.Proofs.YthflimnpiglgbaaDoor.LibUx
namespace Go.Proofs.YthflimnpiglgbaaDoor.LibSh
open Go Go.RowKit Go.Proofs.YthflimnpiglgbaaDoor.A Go.Proofs.YthflimnpiglgbaaDoorW.PrintWords Go.Proofs.YthflimnpiglgbaaDoorW.PrintLast Go.Proofs.YthflimnpiglgbaaDoorW.PrintMore Go.Proofs.YthflimnpiglgbaaDoor.LibHuff Go.Proofs.YthflimnpiglgbaaDoor.LibHuffB
theorem same (k : Nat) : (∀ s a b l x y z, spec_Huff.l0 k s a b l x y z = hf0 k s a b l x y z) ∧ (∀ s a b l x y z, spec_Huff.l1 k s a b l x y z = hf1 k s a b l x y z) := by
  induction k with
  | zero => exact ⟨fun _ _ _ _ _ _ _ => rfl, fun _ _ _ _ _ _ _ => rfl⟩
  | succ k ih =>
    refine ⟨fun s a b l x y z => ?_, fun s a b l x y z => ?_⟩
    · simp only [spec_Huff.l0, hf0, ih.2]
    · simp only [spec_Huff.l1, hf1, ih.1, ih.2]
theorem spec_huff (s : ByteArray) (hs : s.size ≤ 10000000) : ∃ (K : Nat) (r : List Int), LibHb.Bytes r ∧ (r.length : Int) = hlen s ∧ r.length ≤ 5 * s.size + 1 ∧ (∀ k, K ≤ k → spec_Huff.f k s = some r) ∧ (∀ k, K ≤ k → impl_Huff.f k s = some r) ∧ (∀ k, K ≤ k → LibWrap2.unF k r = some (s, true)) := by
  obtain ⟨K, r, h1, h2, h3, h4⟩ := LibUx.back s hs
  obtain ⟨K2, r2, p, f1, f2, f3, f4, f5⟩ := LibHf.huff_bits s (by omega) [] (by intro x hx; cases hx) (by simp)
  have e : r = r2 := by
    have a := h3 (K + K2) (by omega)
    have b := f5 (K + K2) (by omega)
    rw [a] at b
    exact Option.some.inj b
  refine ⟨K + 9000, r, h1, h2, by rw [e]; simpa using f4, fun k hk => ?_, fun k hk => h3 k (by omega), fun k hk => h4 k (by omega)⟩
  unfold spec_Huff.f
  refine LibUh.bs LibHc.lens ?_
  refine LibUh.bs (LibHc.codes k (by omega)) ?_
  rw [(same k).1]
  exact h3 k (by omega)
end Go.Proofs.YthflimnpiglgbaaDoor.LibSh
namespace Go.Proofs.YthflimnpiglgbaaDoor.LibP
open Go.RowKit Go.Proofs.YthflimnpiglgbaaDoor.A Go.Proofs.YthflimnpiglgbaaDoorW.PrintWords Go.Proofs.YthflimnpiglgbaaDoorW.PrintLast Go.Proofs.YthflimnpiglgbaaDoorW.PrintMore Go.Proofs.YthflimnpiglgbaaDoor.LibU Go.Proofs.YthflimnpiglgbaaDoor.LibBits
/-- A number's further bytes, the lowest seven bits first. -/
def vi (x : Nat) : List Int := if x > 127 then ((x % 128 + 128 : Nat) : Int) :: vi (x / 128) else [(x : Int)]
termination_by x
decreasing_by omega
theorem and127 (x : Nat) (hx : x < 2 ^ 63) : Go.bits .and .i64 (x : Int) 127 = ((x % 128 : Nat) : Int) := by
  have := i64_mask (x : Int) 7 (by omega) (by omega) (by omega)
  have e : ((2 : Int) ^ 7 - 1) = 127 := by decide
  rw [e] at this
  rw [this]
  omega
theorem or128 (y : Nat) (hy : y < 128) : Go.bits .or .i64 128 (y : Int) = ((y + 128 : Nat) : Int) := by
  have e7 : (2 : Int) ^ 7 = 128 := by decide
  have h := i64_join 7 128 (y : Int) (by omega) (by decide) (by decide) (by omega) (by rw [e7]; omega) (by omega)
  rw [h]
  omega
theorem or128' (y : Nat) (hy : y < 128) : Go.bits .or .i64 (y : Int) 128 = ((y + 128 : Nat) : Int) := by
  have h1 := i64_or y 128 (by omega) (by omega)
  have h2 := i64_or 128 y (by omega) (by omega)
  rw [Nat.or_comm] at h1
  have h3 := or128 y hy
  exact h1.trans (h2.symm.trans h3)
theorem impl_vi (d : Nat) : ∀ (x k : Nat) (acc : List Int), x < 128 ^ (d + 1) → d < k → x < 16777217 → acc.length + d + 1 ≤ 140737488355327 → impl_putPrefix.l0 k acc (x : Int) = some (acc ++ vi x) := by
  induction d with
  | zero =>
    intro x k acc hx hk hx2 ha
    obtain ⟨k, rfl⟩ := ix (show 0 < k by omega)
    simp only [impl_putPrefix.l0]
    rw [vi, if_neg (by omega), if_pos (by omega), if_neg (by omega), Int.emod_eq_of_lt (by omega) (by omega)]
  | succ d ih =>
    intro x k acc hx hk hx2 ha
    obtain ⟨k, rfl⟩ := ix (show 0 < k by omega)
    simp only [impl_putPrefix.l0]
    by_cases h : x > 127
    · have hp : x < 128 ^ (d + 1) * 128 := by rw [← Nat.pow_succ]; exact hx
      have hd : x / 128 < 128 ^ (d + 1) := Nat.div_lt_of_lt_mul (by rw [Nat.mul_comm]; exact hp)
      rw [vi, if_pos (by omega), if_pos (by omega), if_pos h, and127 x (by omega), or128 _ (by omega)]
      have e : (((x % 128 + 128 : Nat) : Int) % 256) = ((x % 128 + 128 : Nat) : Int) := Int.emod_eq_of_lt (by omega) (by omega)
      have e2 : (x : Int) / 128 = ((x / 128 : Nat) : Int) := by omega
      rw [e, e2, ih (x / 128) k _ hd (by omega) (by omega) (by simp; omega)]
      simp
    · rw [vi, if_neg (by omega), if_pos (by omega), if_neg (by omega), Int.emod_eq_of_lt (by omega) (by omega)]
theorem pow4 : (128 : Nat) ^ (3 + 1) = 268435456 := by decide
theorem impl_vi4 (x : Nat) (hx : x < 16777217) (acc : List Int) (ha : acc.length ≤ 140737488355000) : ∀ k, 4 ≤ k → impl_putPrefix.l0 k acc (x : Int) = some (acc ++ vi x) := fun k hk => impl_vi 3 x k acc (by rw [pow4]; omega) (by omega) hx (by omega)
/-- The first byte and, if the number doesn't fit there, the further ones. -/
def pfxTail (b n : Nat) (first : Int) : List Int :=
  if n < 2 ^ b - 1 then [(Go.bits .or .i64 (Go.bits .and .i64 first (Go.bits .andNot .i64 255 ((2 ^ b - 1 : Nat) : Int))) (n : Int)) % 256]
  else (Go.bits .or .i64 (Go.bits .and .i64 first (Go.bits .andNot .i64 255 ((2 ^ b - 1 : Nat) : Int))) ((2 ^ b - 1 : Nat) : Int)) % 256 :: vi (n - (2 ^ b - 1))
/-- The number as it is put: within its bounds. -/
def clampN (n : Int) : Nat := (mx 0 (mn n 16777216)).toNat
theorem clampN_le (n : Int) : clampN n ≤ 16777216 := by unfold clampN mx mn; repeat' split
                                                        all_goals omega
theorem clampN_eq (n : Int) : mx 0 (mn n 16777216) = (clampN n : Int) := by unfold clampN mx mn; repeat' split
                                                                            all_goals omega
theorem vi_length (d : Nat) : ∀ x, x < 128 ^ (d + 1) → (vi x).length ≤ d + 1 ∧ 1 ≤ (vi x).length := by
  induction d with
  | zero => intro x hx; rw [vi, if_neg (by omega)]; simp
  | succ d ih =>
    intro x hx
    rw [vi]
    by_cases h : x > 127
    · have hp : x < 128 ^ (d + 1) * 128 := by rw [← Nat.pow_succ]; exact hx
      have hd : x / 128 < 128 ^ (d + 1) := Nat.div_lt_of_lt_mul (by rw [Nat.mul_comm]; exact hp)
      have := ih (x / 128) hd
      rw [if_pos h]; simp; omega
    · rw [if_neg h]; simp
theorem pfxTail_length (b n : Nat) (first : Int) (hn : n ≤ 16777216) : (pfxTail b n first).length ≤ 5 ∧ 1 ≤ (pfxTail b n first).length := by
  unfold pfxTail
  have h4 : (128 : Nat) ^ (3 + 1) = 268435456 := by decide
  have := vi_length 3 (n - (2 ^ b - 1)) (by omega)
  split <;> simp <;> omega
theorem shl1 (b : Nat) (hb : 1 ≤ b ∧ b ≤ 8) : wrap64 (shl .i64 1 (IntKind.u64.wrap (b : Int)) - 1) = ((2 ^ b - 1 : Nat) : Int) := by
  obtain ⟨h1, h2⟩ := hb
  rcases (show b = 1 ∨ b = 2 ∨ b = 3 ∨ b = 4 ∨ b = 5 ∨ b = 6 ∨ b = 7 ∨ b = 8 by omega) with rfl | rfl | rfl | rfl | rfl | rfl | rfl | rfl <;> decide +kernel
theorem pow_le (b : Nat) (hb : 1 ≤ b ∧ b ≤ 8) : 1 ≤ 2 ^ b - 1 ∧ 2 ^ b - 1 ≤ 255 := by
  obtain ⟨h1, h2⟩ := hb
  rcases (show b = 1 ∨ b = 2 ∨ b = 3 ∨ b = 4 ∨ b = 5 ∨ b = 6 ∨ b = 7 ∨ b = 8 by omega) with rfl | rfl | rfl | rfl | rfl | rfl | rfl | rfl <;> decide
theorem impl_putPrefix_eq {l : List Int} {b : Nat} {first n : Int} (hb : 1 ≤ b ∧ b ≤ 8) (hl : l.length ≤ 140737488351232) : ∀ k, 4 ≤ k → impl_putPrefix.f k l (b : Int) first n = some (l ++ pfxTail b (clampN n) first) := by
  intro k hk
  have hc := clampN_le n
  have hp := pow_le b hb
  unfold impl_putPrefix.f pfxTail
  rw [if_pos (u64_nn _), shl1 b hb, clampN_eq]
  by_cases h : clampN n < 2 ^ b - 1
  · rw [if_pos (by omega), if_pos (by omega), if_pos h]
  · rw [if_neg (by omega), if_pos (by omega), if_neg h]
    have e : wrap64 ((clampN n : Int) - ((2 ^ b - 1 : Nat) : Int)) = ((clampN n - (2 ^ b - 1) : Nat) : Int) := by rw [w64 (by omega) (by omega)]; omega
    rw [e, impl_vi4 _ (by omega) _ (by simp; omega) k hk]
    simp
theorem clone {l : List Int} (hl : l.length ≤ 140737488351232) : slices_Clone_byte_byte.f l = some l := by
  unfold slices_Clone_byte_byte.f
  simp only [Option.bind_some, List.nil_append, List.length_nil, Nat.zero_add]
  rw [if_pos (by omega)]
def putPrefix (l : List Int) (b first n : Int) : List Int := if (1 ≤ b ∧ b ≤ 8) ∧ (0 ≤ first ∧ first ≤ 255) then l ++ pfxTail b.toNat (clampN n) first else l
theorem putPrefix_length (l : List Int) (b first n : Int) : (putPrefix l b first n).length ≤ l.length + 5 := by
  unfold putPrefix
  have := pfxTail_length b.toNat (clampN n) first (clampN_le n)
  split
  · simp; omega
  · omega
end Go.Proofs.YthflimnpiglgbaaDoor.LibP
namespace Go.Proofs.YthflimnpiglgbaaDoor.LibP
open Go.RowKit Go.Proofs.YthflimnpiglgbaaDoor.A Go.Proofs.YthflimnpiglgbaaDoorW.PrintWords Go.Proofs.YthflimnpiglgbaaDoorW.PrintLast Go.Proofs.YthflimnpiglgbaaDoorW.PrintMore Go.Proofs.YthflimnpiglgbaaDoor.LibU Go.Proofs.YthflimnpiglgbaaDoor.LibBits
theorem spec_vi (d : Nat) : ∀ (x k : Nat) (acc : List Int), x < 128 ^ (d + 1) → d < k → x < 16777217 → acc.length + d + 1 ≤ 140737488355327 → spec_PutPrefix.l0 k (x : Int) acc = some (acc ++ vi x) := by
  induction d with
  | zero =>
    intro x k acc hx hk hx2 ha
    obtain ⟨k, rfl⟩ := ix (show 0 < k by omega)
    simp only [spec_PutPrefix.l0]
    rw [vi, if_neg (by omega), if_pos (by omega), if_neg (by omega), Int.emod_eq_of_lt (by omega) (by omega)]
  | succ d ih =>
    intro x k acc hx hk hx2 ha
    obtain ⟨k, rfl⟩ := ix (show 0 < k by omega)
    simp only [spec_PutPrefix.l0]
    by_cases h : x > 127
    · have hp : x < 128 ^ (d + 1) * 128 := by rw [← Nat.pow_succ]; exact hx
      have hd : x / 128 < 128 ^ (d + 1) := Nat.div_lt_of_lt_mul (by rw [Nat.mul_comm]; exact hp)
      rw [vi, if_pos (by omega), if_pos (by omega), if_pos h, and127 x (by omega), or128' _ (by omega)]
      have e : (((x % 128 + 128 : Nat) : Int) % 256) = ((x % 128 + 128 : Nat) : Int) := Int.emod_eq_of_lt (by omega) (by omega)
      have e2 : (x : Int) / 128 = ((x / 128 : Nat) : Int) := by omega
      rw [e, e2, ih (x / 128) k _ hd (by omega) (by omega) (by simp; omega)]
      simp
    · rw [vi, if_neg (by omega), if_pos (by omega), if_neg (by omega), Int.emod_eq_of_lt (by omega) (by omega)]
theorem spec_vi4 (x : Nat) (hx : x < 16777217) (acc : List Int) (ha : acc.length ≤ 140737488355000) : ∀ k, 4 ≤ k → spec_PutPrefix.l0 k (x : Int) acc = some (acc ++ vi x) := fun k hk => spec_vi 3 x k acc (by rw [pow4]; omega) (by omega) hx (by omega)
set_option maxRecDepth 100000 in
theorem mask_tab : ∀ b : Fin 8, ∀ f : Fin 256, Go.bits .andNot .i64 (f.val : Int) ((2 ^ (b.val + 1) - 1 : Nat) : Int) = Go.bits .and .i64 (f.val : Int) (Go.bits .andNot .i64 255 ((2 ^ (b.val + 1) - 1 : Nat) : Int)) := by decide +kernel
theorem mask_eq {b : Nat} {f : Int} (hb : 1 ≤ b ∧ b ≤ 8) (hf : 0 ≤ f ∧ f ≤ 255) : Go.bits .andNot .i64 f ((2 ^ b - 1 : Nat) : Int) = Go.bits .and .i64 f (Go.bits .andNot .i64 255 ((2 ^ b - 1 : Nat) : Int)) := by
  obtain ⟨f, rfl⟩ := Int.eq_ofNat_of_zero_le hf.1
  have := mask_tab ⟨b - 1, by omega⟩ ⟨f, by omega⟩
  simpa [show b - 1 + 1 = b by omega] using this
theorem spec_PutPrefix {l : List Int} {b first n : Int} (hl : l.length ≤ 140737488351232) : ∀ k, 8 ≤ k → spec_PutPrefix.f k l b first n = some (putPrefix l b first n) := by
  intro k hk
  obtain ⟨k, rfl⟩ : ∃ m, k = m + 1 + 1 + 1 := ⟨k - 3, by omega⟩
  unfold spec_PutPrefix.f putPrefix
  simp only [Option.bind_some, List.nil_append, List.length_nil, Nat.zero_add, l1In]
  rw [if_pos (by omega)]
  by_cases h1 : 1 ≤ b ∧ b ≤ 8
  · rw [if_pos (by simpa using h1)]
    by_cases h2 : 0 ≤ first ∧ first ≤ 255
    · rw [if_pos ⟨h1, h2⟩]
      obtain ⟨b, rfl⟩ := Int.eq_ofNat_of_zero_le (show 0 ≤ b by omega)
      have hb : 1 ≤ b ∧ b ≤ 8 := by omega
      have hc := clampN_le n
      have hp := pow_le b hb
      have h2j : ∀ m : Nat, m ≤ 16777216 → spec_PutPrefix.j2 (k + 1) (b : Int) first (m : Int) l = some (l ++ pfxTail b m first) := by
        intro m hm
        simp only [spec_PutPrefix.j2]
        unfold pfxTail
        rw [if_pos (u64_nn _), shl1 b hb, mask_eq hb h2]
        by_cases h : m < 2 ^ b - 1
        · rw [if_pos (by omega), if_pos (by omega), if_pos h]
        · rw [if_neg (by omega), if_pos (by omega), if_neg h]
          have e : wrap64 ((m : Int) - ((2 ^ b - 1 : Nat) : Int)) = ((m - (2 ^ b - 1) : Nat) : Int) := by rw [w64 (by omega) (by omega)]; omega
          rw [e, spec_vi4 _ (by omega) _ (by simp; omega) k (by omega)]
          simp
      have h1j : ∀ x : Int, x ≤ 16777216 → spec_PutPrefix.j1 (k + 1 + 1) (b : Int) first x l = some (l ++ pfxTail b (clampN x) first) := by
        intro x hx
        simp only [spec_PutPrefix.j1]
        by_cases h : x < 0
        · rw [if_pos h]
          have e : clampN x = 0 := by unfold clampN mx mn; repeat' split
                                      all_goals omega
          rw [e]
          exact h2j 0 (by omega)
        · rw [if_neg h]
          have e : x = (clampN x : Int) := by unfold clampN mx mn; repeat' split
                                              all_goals omega
          have := h2j (clampN x) (clampN_le x)
          rw [← e] at this
          exact this
      simp only [spec_PutPrefix.j0]
      rw [if_neg (by simp; omega)]
      by_cases h3 : n > 16777216
      · rw [if_pos h3]
        have e : clampN n = clampN 16777216 := by unfold clampN mx mn; repeat' split
                                                  all_goals omega
        have := h1j 16777216 (by omega)
        rw [← e] at this
        exact this
      · rw [if_neg h3]
        exact h1j n (by omega)
    · rw [if_neg (fun h => h2 h.2)]
      simp only [spec_PutPrefix.j0]
      rw [if_pos (by simp; omega)]
  · rw [if_neg (by simpa using h1), if_neg (fun h => h1 h.1)]
    simp only [spec_PutPrefix.j0]
    rw [if_pos trivial]
end Go.Proofs.YthflimnpiglgbaaDoor.LibP
namespace Go.Proofs.YthflimnpiglgbaaDoor.LibPt
open Go.RowKit Go.Proofs.YthflimnpiglgbaaDoor.A Go.Proofs.YthflimnpiglgbaaDoorW.PrintWords Go.Proofs.YthflimnpiglgbaaDoorW.PrintLast Go.Proofs.YthflimnpiglgbaaDoorW.PrintMore Go.Proofs.YthflimnpiglgbaaDoor.LibU Go.Proofs.YthflimnpiglgbaaDoor.LibP
theorem vi_bytes (d : Nat) : ∀ x, x < 128 ^ (d + 1) → ∀ y ∈ vi x, 0 ≤ y ∧ y ≤ 255 := by
  induction d with
  | zero =>
    intro x hx y hy
    rw [vi, if_neg (by omega)] at hy
    simp only [List.mem_singleton] at hy
    omega
  | succ d ih =>
    intro x hx y hy
    rw [vi] at hy
    by_cases h : x > 127
    · have hp : x < 128 ^ (d + 1) * 128 := by rw [← Nat.pow_succ]; exact hx
      have hd : x / 128 < 128 ^ (d + 1) := Nat.div_lt_of_lt_mul (by rw [Nat.mul_comm]; exact hp)
      rw [if_pos h] at hy
      rcases List.mem_cons.1 hy with hy | hy
      · omega
      · exact ih (x / 128) hd y hy
    · rw [if_neg h] at hy
      simp only [List.mem_singleton] at hy
      omega
theorem pfx_bytes (b n : Nat) (f : Int) (hn : n ≤ 16777216) : LibHb.Bytes (pfxTail b n f) := by
  intro y hy
  unfold pfxTail at hy
  split at hy
  · simp only [List.mem_singleton] at hy
    omega
  · rcases List.mem_cons.1 hy with hy | hy
    · omega
    · exact vi_bytes 3 _ (by rw [pow4]; omega) y hy
theorem clamp (n : Nat) (h : n ≤ 16777216) : clampN (n : Int) = n := by
  unfold clampN mx mn
  repeat' split
  all_goals omega
/-- A row in front stays in front. -/
theorem in_front (s : ByteArray) (hs : s.size ≤ 10000000) (t r0 : List Int) (ht : LibHb.Bytes t) (htl : t.length ≤ 10000000) (K0 : Nat) (h0 : ∀ k, K0 ≤ k → LibHuffB.hf0 k s LibHuff.lensI LibHuff.bitsI [] 0 0 0 = some r0) : ∃ K, ∀ k, K ≤ k → LibHuffB.hf0 k s LibHuff.lensI LibHuff.bitsI t 0 0 0 = some (t ++ r0) := by
  obtain ⟨K1, r1, p1, a1, a2, a3, a4, a5⟩ := LibHf.huff_bits s (by omega) t ht (by omega)
  obtain ⟨K2, r2, p2, b1, b2, b3, b4, b5⟩ := LibHf.huff_bits s (by omega) [] (by intro x hx; cases hx) (by simp)
  have e : r0 = r2 := by
    have a := h0 (K0 + K2) (by omega)
    have b := b5 (K0 + K2) (by omega)
    rw [a] at b
    exact Option.some.inj b
  have l1 := congrArg List.length a3
  have l2 := congrArg List.length b3
  simp only [List.length_append, List.length_replicate, LibHb.listBits_len, LibUnH.listBits, List.length_nil] at l1 l2
  have hp : p1 = p2 := by omega
  refine ⟨K1, fun k hk => ?_⟩
  rw [a5 k hk, e]
  congr 1
  refine LibHb.listBits_inj r1 (t ++ r2) a2 ?_ ?_
  · intro x hx
    rcases List.mem_append.1 hx with hx | hx
    · exact ht x hx
    · exact b2 x hx
  · rw [a3, LibHb.listBits_append, b3, hp]
    simp [LibUnH.listBits, List.append_assoc]
theorem ps (l : List Int) (s : ByteArray) (hl : l.length ≤ 1048576) (hb : LibHb.Bytes l) (hs : s.size ≤ 1048576) :
    ∃ K r, (∀ k, K ≤ k → spec_PutString.f k l s = some r) ∧ (∀ k, K ≤ k → impl_putString.f k l s = some r) ∧ r.length ≤ l.length + s.size + 5 ∧
      ((∃ r0 : List Int, r = l ++ pfxTail 7 r0.length 128 ++ r0 ∧ r0.length < s.size ∧ ∀ k, K ≤ k → LibWrap2.unF k r0 = some (s, true)) ∨ r = l ++ pfxTail 7 s.size 0 ++ bytesOf s) := by
  obtain ⟨K0, r0, c1, c2, c3, c4, c5, c6⟩ := LibSh.spec_huff s (by omega)
  have hbs := bytesOf_length s
  by_cases hlt : (r0.length : Int) < (s.size : Int)
  · have hpf := pfxTail_length 7 r0.length 128 (by omega)
    obtain ⟨K1, d1⟩ := in_front s (by omega) (l ++ pfxTail 7 r0.length 128) r0 (by
      intro x hx
      rcases List.mem_append.1 hx with hx | hx
      · exact hb x hx
      · exact pfx_bytes 7 r0.length 128 (by omega) x hx) (by simp; omega) K0 c5
    refine ⟨K0 + K1 + 10, l ++ pfxTail 7 r0.length 128 ++ r0, fun k hk => ?_, fun k hk => ?_, by simp; omega, .inl ⟨r0, rfl, by omega, fun k hk => c6 k (by omega)⟩⟩
    · unfold spec_PutString.f
      refine bs (c4 k (by omega)) ?_
      rw [if_pos hlt]
      refine bs (spec_PutPrefix (l := l) (b := 7) (first := 128) (n := (r0.length : Int)) (by omega) k (by omega)) ?_
      have e : putPrefix l 7 128 (r0.length : Int) = l ++ pfxTail 7 r0.length 128 := by
        unfold putPrefix
        rw [if_pos ⟨by omega, by omega⟩, clamp _ (by omega)]
        rfl
      rw [e, if_pos (by simp; omega)]
    · unfold impl_putString.f
      rw [if_pos (by omega), ← c2, if_pos hlt]
      refine bs (impl_putPrefix_eq (l := l) (b := 7) (first := 128) (n := (r0.length : Int)) (by omega) (by omega) k (by omega)) ?_
      rw [clamp _ (by omega)]
      exact d1 k (by omega)
  · have hpf := pfxTail_length 7 s.size 0 (by omega)
    refine ⟨K0 + 10, l ++ pfxTail 7 s.size 0 ++ bytesOf s, fun k hk => ?_, fun k hk => ?_, by simp; omega, .inr rfl⟩
    · unfold spec_PutString.f
      refine bs (c4 k (by omega)) ?_
      rw [if_neg hlt]
      refine bs (spec_PutPrefix (l := l) (b := 7) (first := 0) (n := (s.size : Int)) (by omega) k (by omega)) ?_
      have e : putPrefix l 7 0 (s.size : Int) = l ++ pfxTail 7 s.size 0 := by
        unfold putPrefix
        rw [if_pos ⟨by omega, by omega⟩, clamp _ (by omega)]
        rfl
      rw [e, if_pos (by simp; omega)]
    · unfold impl_putString.f
      rw [if_pos (by omega), ← c2, if_neg hlt]
      refine bs (impl_putPrefix_eq (l := l) (b := 7) (first := 0) (n := (s.size : Int)) (by omega) (by omega) k (by omega)) ?_
      rw [clamp _ (by omega), if_pos (by simp; omega)]
theorem impl_ps {l : List Int} {s : ByteArray} {r : List Int} {k : Nat} (hl : l.length ≤ 1048576) (h : impl_putString.f k l s = some r) : impl_PutString.f k l s = some r := by
  unfold impl_PutString.f
  refine bs (clone (by omega)) ?_
  refine bs h ?_
  rfl
end Go.Proofs.YthflimnpiglgbaaDoor.LibPt
namespace Go.Proofs.YthflimnpiglgbaaDoor.LibGP
open Go.RowKit Go.Proofs.YthflimnpiglgbaaDoor.A Go.Proofs.YthflimnpiglgbaaDoorW.PrintWords Go.Proofs.YthflimnpiglgbaaDoorW.PrintLast Go.Proofs.YthflimnpiglgbaaDoorW.PrintMore Go.Proofs.YthflimnpiglgbaaDoor.LibU Go.Proofs.YthflimnpiglgbaaDoor.LibBits Go.Proofs.YthflimnpiglgbaaDoor.LibP
theorem getD_app_right (l r : List Int) (i : Nat) : (l ++ r).getD (l.length + i) 0 = r.getD i 0 := by
  simp only [List.getD_eq_getElem?_getD]
  rw [List.getElem?_append_right (by omega)]
  congr 2
  omega
theorem shl7 (x : Nat) (i : Nat) (hx : x < 128) (hi : i < 4) : shl .i64 (x : Int) (IntKind.u64.wrap (wrap64 (7 * (i : Int)))) = ((x * 128 ^ i : Nat) : Int) := by
  rcases (show i = 0 ∨ i = 1 ∨ i = 2 ∨ i = 3 by omega) with rfl | rfl | rfl | rfl
  · have e : IntKind.u64.wrap (wrap64 (7 * ((0 : Nat) : Int))) = 0 := by decide +kernel
    have e2 : min (0 : Int).toNat IntKind.i64.bits = 0 := by decide
    have e3 : (2 : Int) ^ 0 = 1 := by decide
    rw [e]; unfold shl; rw [e2, e3, IntKind.wrap_i64]; omega
  · have e : IntKind.u64.wrap (wrap64 (7 * ((1 : Nat) : Int))) = 7 := by decide +kernel
    have e2 : min (7 : Int).toNat IntKind.i64.bits = 7 := by decide
    have e3 : (2 : Int) ^ 7 = 128 := by decide
    rw [e]; unfold shl; rw [e2, e3, IntKind.wrap_i64]; omega
  · have e : IntKind.u64.wrap (wrap64 (7 * ((2 : Nat) : Int))) = 14 := by decide +kernel
    have e2 : min (14 : Int).toNat IntKind.i64.bits = 14 := by decide
    have e3 : (2 : Int) ^ 14 = 16384 := by decide
    rw [e]; unfold shl; rw [e2, e3, IntKind.wrap_i64]; omega
  · have e : IntKind.u64.wrap (wrap64 (7 * ((3 : Nat) : Int))) = 21 := by decide +kernel
    have e2 : min (21 : Int).toNat IntKind.i64.bits = 21 := by decide
    have e3 : (2 : Int) ^ 21 = 2097152 := by decide
    rw [e]; unfold shl; rw [e2, e3, IntKind.wrap_i64]; omega
/-- One further byte that says that more come. -/
theorem more_step (p : List Int) (hp : p.length ≤ 2000000) (at_ i : Nat) (n : Int) (x : Nat) (hx : x < 128) (hi : i < 4) (ha : at_ < p.length) (hv : p.getD at_ 0 = ((x + 128 : Nat) : Int)) (hn : 0 ≤ n ∧ n ≤ 1000000000) (k : Nat) :
    impl_GetPrefix.l0 (k + 1 + 1) p (at_ : Int) n (i : Int) = impl_GetPrefix.l0 k p ((at_ + 1 : Nat) : Int) (n + ((x * 128 ^ i : Nat) : Int)) ((i + 1 : Nat) : Int) := by
  have hpow : x * 128 ^ i ≤ 128 * 2097152 := by
    rcases (show i = 0 ∨ i = 1 ∨ i = 2 ∨ i = 3 by omega) with rfl | rfl | rfl | rfl <;> simp <;> omega
  simp only [impl_GetPrefix.l0, impl_GetPrefix.j2, rd_nat, hv]
  rw [if_pos (by omega), if_pos (decide_eq_true (by omega)), if_pos (by omega), if_pos (by omega), if_pos (u64_nn _), w64 (x := ((x + 128 : Nat) : Int)) (by omega) (by omega), if_neg (by omega), and127 (x + 128) (by omega)]
  have em : (x + 128) % 128 = x := by omega
  rw [em, shl7 x i hx hi, w64 (x := n + ((x * 128 ^ i : Nat) : Int)) (by omega) (by omega), w64 (x := (at_ : Int) + 1) (by omega) (by omega), w64 (x := (i : Int) + 1) (by omega) (by omega)]
  rfl
/-- The last further byte. -/
theorem last_step (p : List Int) (hp : p.length ≤ 2000000) (at_ i : Nat) (n : Int) (x : Nat) (hx : x < 128) (hi : i < 4) (ha : at_ < p.length) (hv : p.getD at_ 0 = (x : Int)) (hn : 0 ≤ n ∧ n + ((x * 128 ^ i : Nat) : Int) ≤ 16777216) (k : Nat) :
    impl_GetPrefix.l0 (k + 1 + 1) p (at_ : Int) n (i : Int) = some (n + ((x * 128 ^ i : Nat) : Int), ((at_ + 1 : Nat) : Int), true) := by
  simp only [impl_GetPrefix.l0, impl_GetPrefix.j2, rd_nat, hv]
  rw [if_pos (by omega), if_pos (decide_eq_true (by omega)), if_pos (by omega), if_pos (by omega), if_pos (u64_nn _), w64 (x := (x : Int)) (by omega) (by omega), if_pos (by omega), and127 x (by omega)]
  have em : x % 128 = x := by omega
  rw [em, shl7 x i hx hi, w64 (x := n + ((x * 128 ^ i : Nat) : Int)) (by omega) (by omega), if_neg (by omega), w64 (x := (at_ : Int) + 1) (by omega) (by omega)]
  rfl
/-- Where the bytes end, nothing is read. -/
theorem end_step (p : List Int) (at_ i : Nat) (n : Int) (ha : p.length ≤ at_) (k : Nat) : impl_GetPrefix.l0 (k + 1 + 1) p (at_ : Int) n (i : Int) = some (0, 0, false) := by
  simp only [impl_GetPrefix.l0, impl_GetPrefix.j2]
  by_cases h : (i : Int) < 4
  · rw [if_pos h, if_neg (by simp; omega)]
  · rw [if_neg h, if_neg (by decide)]
theorem vi_ne (x : Nat) : vi x ≠ [] := by rw [vi]; split <;> simp
/-- The further bytes of a number, wherever they stand, come back. -/
theorem read_vi (d : Nat) : ∀ (x i : Nat) (l r : List Int) (n : Nat), x < 128 ^ (d + 1) → d + i < 4 → (l ++ vi x ++ r).length ≤ 2000000 → n + x * 128 ^ i ≤ 16777216 →
    ∀ k, 2 * (d + 1) ≤ k → impl_GetPrefix.l0 k (l ++ vi x ++ r) (l.length : Int) (n : Int) (i : Int) = some (((n + x * 128 ^ i : Nat) : Int), ((l.length + (vi x).length : Nat) : Int), true) := by
  have one : ∀ (x i : Nat) (l r : List Int) (n : Nat), x ≤ 127 → i < 4 → (l ++ vi x ++ r).length ≤ 2000000 → n + x * 128 ^ i ≤ 16777216 → ∀ k, 2 ≤ k →
      impl_GetPrefix.l0 k (l ++ vi x ++ r) (l.length : Int) (n : Int) (i : Int) = some (((n + x * 128 ^ i : Nat) : Int), ((l.length + (vi x).length : Nat) : Int), true) := by
    intro x i l r n hx hi hlen hn k hk
    obtain ⟨k, rfl⟩ : ∃ m, k = m + 1 + 1 := ⟨k - 2, by omega⟩
    have hv : vi x = [(x : Int)] := by rw [vi, if_neg (by omega)]
    rw [hv]
    rw [hv] at hlen
    have := last_step (l ++ [(x : Int)] ++ r) hlen l.length i (n : Int) x (by omega) (by omega) (by simp) (by simp) (by omega) k
    rw [this]
    simp
  induction d with
  | zero => intro x i l r n hx hd hlen hn k hk; exact one x i l r n (by omega) (by omega) hlen hn k (by omega)
  | succ d ih =>
    intro x i l r n hx hd hlen hn k hk
    by_cases h : x > 127
    · have hv : vi x = ((x % 128 + 128 : Nat) : Int) :: vi (x / 128) := by rw [vi, if_pos h]
      have hp : x < 128 ^ (d + 1) * 128 := by rw [← Nat.pow_succ]; exact hx
      have hd1 : x / 128 < 128 ^ (d + 1) := Nat.div_lt_of_lt_mul (by rw [Nat.mul_comm]; exact hp)
      have hxx : x % 128 * 128 ^ i + x / 128 * 128 ^ (i + 1) = x * 128 ^ i := by
        rw [Nat.pow_succ, Nat.mul_comm (128 ^ i) 128, ← Nat.mul_assoc, ← Nat.add_mul]
        congr 1
        omega
      obtain ⟨k, rfl⟩ : ∃ m, k = m + 1 + 1 := ⟨k - 2, by omega⟩
      rw [hv]
      rw [hv] at hlen
      have h1 := more_step (l ++ ((x % 128 + 128 : Nat) : Int) :: vi (x / 128) ++ r) hlen l.length i (n : Int) (x % 128) (by omega) (by omega) (by simp) (by simp) (by omega) k
      have hl' : l ++ ((x % 128 + 128 : Nat) : Int) :: vi (x / 128) ++ r = (l ++ [((x % 128 + 128 : Nat) : Int)]) ++ vi (x / 128) ++ r := by simp
      rw [h1, hl']
      rw [hl'] at hlen
      have h2 := ih (x / 128) (i + 1) (l ++ [((x % 128 + 128 : Nat) : Int)]) r (n + x % 128 * 128 ^ i) hd1 (by omega) hlen (by omega) k (by omega)
      have el : (((l ++ [((x % 128 + 128 : Nat) : Int)]).length : Nat) : Int) = ((l.length + 1 : Nat) : Int) := by simp
      have en : (n : Int) + ((x % 128 * 128 ^ i : Nat) : Int) = ((n + x % 128 * 128 ^ i : Nat) : Int) := by omega
      rw [el] at h2
      rw [en, h2]
      have ea : n + x % 128 * 128 ^ i + x / 128 * 128 ^ (i + 1) = n + x * 128 ^ i := by omega
      have eb : (l ++ [((x % 128 + 128 : Nat) : Int)]).length + (vi (x / 128)).length = l.length + (((x % 128 + 128 : Nat) : Int) :: vi (x / 128)).length := by simp; omega
      rw [ea, eb]
    · exact one x i l r n (by omega) (by omega) hlen hn k (by omega)
/-- Without the last of them nothing is read. -/
theorem read_cut (d : Nat) : ∀ (x i : Nat) (l : List Int) (n : Nat), x < 128 ^ (d + 1) → d + i < 4 → (l ++ (vi x).dropLast).length ≤ 2000000 → n + x * 128 ^ i ≤ 16777216 →
    ∀ k, 2 * (d + 1) ≤ k → impl_GetPrefix.l0 k (l ++ (vi x).dropLast) (l.length : Int) (n : Int) (i : Int) = some (0, 0, false) := by
  have one : ∀ (x i : Nat) (l : List Int) (n : Nat), x ≤ 127 → ∀ k, 2 ≤ k → impl_GetPrefix.l0 k (l ++ (vi x).dropLast) (l.length : Int) (n : Int) (i : Int) = some (0, 0, false) := by
    intro x i l n hx k hk
    obtain ⟨k, rfl⟩ : ∃ m, k = m + 1 + 1 := ⟨k - 2, by omega⟩
    have hv : vi x = [(x : Int)] := by rw [vi, if_neg (by omega)]
    rw [hv]
    exact end_step _ _ _ _ (by simp) k
  induction d with
  | zero => intro x i l n hx hd hlen hn k hk; exact one x i l n (by omega) k (by omega)
  | succ d ih =>
    intro x i l n hx hd hlen hn k hk
    by_cases h : x > 127
    · have hv : (vi x).dropLast = ((x % 128 + 128 : Nat) : Int) :: (vi (x / 128)).dropLast := by
        have : vi x = ((x % 128 + 128 : Nat) : Int) :: vi (x / 128) := by rw [vi, if_pos h]
        rw [this, List.dropLast_cons_of_ne_nil (vi_ne _)]
      have hp : x < 128 ^ (d + 1) * 128 := by rw [← Nat.pow_succ]; exact hx
      have hd1 : x / 128 < 128 ^ (d + 1) := Nat.div_lt_of_lt_mul (by rw [Nat.mul_comm]; exact hp)
      have hxx : x % 128 * 128 ^ i + x / 128 * 128 ^ (i + 1) = x * 128 ^ i := by
        rw [Nat.pow_succ, Nat.mul_comm (128 ^ i) 128, ← Nat.mul_assoc, ← Nat.add_mul]
        congr 1
        omega
      obtain ⟨k, rfl⟩ : ∃ m, k = m + 1 + 1 := ⟨k - 2, by omega⟩
      rw [hv]
      rw [hv] at hlen
      have h1 := more_step (l ++ ((x % 128 + 128 : Nat) : Int) :: (vi (x / 128)).dropLast) hlen l.length i (n : Int) (x % 128) (by omega) (by omega) (by simp) (by simp) (by omega) k
      have hl' : l ++ ((x % 128 + 128 : Nat) : Int) :: (vi (x / 128)).dropLast = (l ++ [((x % 128 + 128 : Nat) : Int)]) ++ (vi (x / 128)).dropLast := by simp
      rw [h1, hl']
      rw [hl'] at hlen
      have h2 := ih (x / 128) (i + 1) (l ++ [((x % 128 + 128 : Nat) : Int)]) (n + x % 128 * 128 ^ i) hd1 (by omega) hlen (by omega) k (by omega)
      have el : (((l ++ [((x % 128 + 128 : Nat) : Int)]).length : Nat) : Int) = ((l.length + 1 : Nat) : Int) := by simp
      have en : (n : Int) + ((x % 128 * 128 ^ i : Nat) : Int) = ((n + x % 128 * 128 ^ i : Nat) : Int) := by omega
      rw [el] at h2
      rw [en, h2]
    · exact one x i l n (by omega) k (by omega)
/-- The first byte's lower bits. -/
theorem low_bits {b : Nat} (hb : 1 ≤ b ∧ b ≤ 8) (x : Int) (hx : 0 ≤ x ∧ x ≤ 255) : Go.bits .and .i64 x ((2 ^ b - 1 : Nat) : Int) = x % 2 ^ b := by
  have h := i64_mask x b (by omega) (by omega) (by omega)
  have e : ((2 ^ b - 1 : Nat) : Int) = 2 ^ b - 1 := by
    rcases (show b = 1 ∨ b = 2 ∨ b = 3 ∨ b = 4 ∨ b = 5 ∨ b = 6 ∨ b = 7 ∨ b = 8 by omega) with rfl | rfl | rfl | rfl | rfl | rfl | rfl | rfl <;> decide
  rw [e]
  exact h
set_option maxRecDepth 100000 in
theorem high_tab : ∀ b : Fin 8, ∀ f : Fin 256, Go.bits .and .i64 (f.val : Int) (Go.bits .andNot .i64 255 ((2 ^ (b.val + 1) - 1 : Nat) : Int)) = ((f.val / 2 ^ (b.val + 1) * 2 ^ (b.val + 1) : Nat) : Int) := by decide +kernel
theorem high_eq {b f : Nat} (hb : 1 ≤ b ∧ b ≤ 8) (hf : f ≤ 255) : Go.bits .and .i64 (f : Int) (Go.bits .andNot .i64 255 ((2 ^ b - 1 : Nat) : Int)) = ((f / 2 ^ b * 2 ^ b : Nat) : Int) := by
  have := high_tab ⟨b - 1, by omega⟩ ⟨f, by omega⟩
  simpa [show b - 1 + 1 = b by omega] using this
theorem pow_cases {b : Nat} (hb : 1 ≤ b ∧ b ≤ 8) : (b = 1 ∧ 2 ^ b = 2) ∨ (b = 2 ∧ 2 ^ b = 4) ∨ (b = 3 ∧ 2 ^ b = 8) ∨ (b = 4 ∧ 2 ^ b = 16) ∨ (b = 5 ∧ 2 ^ b = 32) ∨ (b = 6 ∧ 2 ^ b = 64) ∨ (b = 7 ∧ 2 ^ b = 128) ∨ (b = 8 ∧ 2 ^ b = 256) := by
  rcases (show b = 1 ∨ b = 2 ∨ b = 3 ∨ b = 4 ∨ b = 5 ∨ b = 6 ∨ b = 7 ∨ b = 8 by omega) with rfl | rfl | rfl | rfl | rfl | rfl | rfl | rfl <;> decide
/-- The first byte: the upper bits as they were, below them the number or all ones. -/
theorem first_byte {b f m : Nat} (hb : 1 ≤ b ∧ b ≤ 8) (hf : f ≤ 255) (hm : m ≤ 2 ^ b - 1) :
    (Go.bits .or .i64 (Go.bits .and .i64 (f : Int) (Go.bits .andNot .i64 255 ((2 ^ b - 1 : Nat) : Int))) (m : Int)) % 256 = ((f / 2 ^ b * 2 ^ b + m : Nat) : Int) ∧ f / 2 ^ b * 2 ^ b + m ≤ 255 := by
  rw [high_eq hb hf]
  have e : ∀ q : Nat, q ≤ 255 → q / 2 ^ b * 2 ^ b + (2 ^ b - 1) ≤ 255 := by
    intro q hq
    rcases pow_cases hb with ⟨_, h⟩ | ⟨_, h⟩ | ⟨_, h⟩ | ⟨_, h⟩ | ⟨_, h⟩ | ⟨_, h⟩ | ⟨_, h⟩ | ⟨_, h⟩ <;> rw [h] <;> omega
  have h1 := e f hf
  have hj := i64_join b ((f / 2 ^ b * 2 ^ b : Nat) : Int) (m : Int) (by omega) (by
    have : (((f / 2 ^ b * 2 ^ b : Nat) : Int)) = (f / 2 ^ b : Nat) * (2 : Int) ^ b := by push_cast; rfl
    rw [this]
    exact Int.mul_emod_left _ _) (by omega) (by omega) (by
    have : ((2 ^ b : Nat) : Int) = (2 : Int) ^ b := by push_cast; rfl
    rw [← this]
    have : 0 < 2 ^ b := Nat.two_pow_pos b
    omega) (by omega)
  rw [hj]
  exact ⟨by omega, by omega⟩
theorem mod_hi {b f m : Nat} (hb : 1 ≤ b ∧ b ≤ 8) (hm : m ≤ 2 ^ b - 1) : ((f / 2 ^ b * 2 ^ b + m : Nat) : Int) % 2 ^ b = (m : Int) ∧ (f / 2 ^ b * 2 ^ b + m) / 2 ^ b = f / 2 ^ b := by
  have hp : 0 < 2 ^ b := Nat.two_pow_pos b
  constructor
  · have e : ((2 : Int) ^ b) = ((2 ^ b : Nat) : Int) := by push_cast; rfl
    have e2 : (f / 2 ^ b * 2 ^ b + m) % 2 ^ b = m := by rw [Nat.mul_comm, Nat.mul_add_mod, Nat.mod_eq_of_lt (by omega)]
    rw [e]
    omega
  · rw [Nat.mul_comm, Nat.mul_add_div hp]
    have : m / 2 ^ b = 0 := Nat.div_eq_of_lt (by omega)
    omega
/-- A place in range: the first byte decides. -/
theorem getPrefix_at (p : List Int) (at_ b v : Nat) (hp : p.length ≤ 2000000) (hb : 1 ≤ b ∧ b ≤ 8) (ha : at_ < p.length) (hv : p.getD at_ 0 = (v : Int)) (hv2 : v ≤ 255) (k : Nat) :
    impl_GetPrefix.f (k + 1) p (at_ : Int) (b : Int) = if ((v : Int) % 2 ^ b) < ((2 ^ b - 1 : Nat) : Int) then some ((v : Int) % 2 ^ b, ((at_ + 1 : Nat) : Int), true) else impl_GetPrefix.l0 k p ((at_ + 1 : Nat) : Int) ((v : Int) % 2 ^ b) 0 := by
  unfold impl_GetPrefix.f
  refine bs (inRange _ _ _) ?_
  rw [if_pos (by simp; omega), w64 (x := (p.length : Int) - 1) (by omega) (by omega)]
  refine bs (inRange _ _ _) ?_
  simp only [impl_GetPrefix.j0, rd_nat, hv]
  rw [if_neg (by simp; omega), if_pos (u64_nn _), if_pos (by omega), if_pos (by omega), shl1 b hb, w64 (x := (v : Int)) (by omega) (by omega), low_bits hb v (by omega), w64 (x := (at_ : Int) + 1) (by omega) (by omega)]
  rfl
theorem getPrefix_out (p : List Int) (at_ b : Nat) (hp : p.length ≤ 2000000) (hb : 1 ≤ b ∧ b ≤ 8) (ha : p.length ≤ at_) (k : Nat) : impl_GetPrefix.f (k + 1) p (at_ : Int) (b : Int) = some (0, 0, false) := by
  unfold impl_GetPrefix.f
  refine bs (inRange _ _ _) ?_
  rw [if_pos (by simp; omega), w64 (x := (p.length : Int) - 1) (by omega) (by omega)]
  refine bs (inRange _ _ _) ?_
  simp only [impl_GetPrefix.j0]
  rw [if_pos (by simp; omega)]
/-- What PutPrefix puts comes back, with whatever behind it; without its last byte it doesn't; the upper bits stay. -/
theorem roundtrip {l r : List Int} {b f n : Nat} (hb : 1 ≤ b ∧ b ≤ 8) (hf : f ≤ 255) (hn : n ≤ 16777216) (hl : l.length + r.length ≤ 1500000) :
    (∀ k, 12 ≤ k → impl_GetPrefix.f k (l ++ pfxTail b n f ++ r) (l.length : Int) (b : Int) = some ((n : Int), ((l.length + (pfxTail b n f).length : Nat) : Int), true)) ∧
    (∀ k, 12 ≤ k → impl_GetPrefix.f k (l ++ (pfxTail b n f).dropLast) (l.length : Int) (b : Int) = some (0, 0, false)) ∧
    ∃ v : Nat, v ≤ 255 ∧ (pfxTail b n f).getD 0 0 = (v : Int) ∧ v / 2 ^ b = f / 2 ^ b := by
  have hlen := pfxTail_length b n f hn
  have hp := pow_le b hb
  by_cases h : n < 2 ^ b - 1
  · obtain ⟨h1, h2⟩ := first_byte (b := b) (f := f) (m := n) hb hf (by omega)
    obtain ⟨m1, m2⟩ := mod_hi (b := b) (f := f) (m := n) hb (by omega)
    have ht : pfxTail b n f = [((f / 2 ^ b * 2 ^ b + n : Nat) : Int)] := by unfold pfxTail; rw [if_pos h, h1]
    rw [ht]
    refine ⟨fun k hk => ?_, fun k hk => ?_, ⟨f / 2 ^ b * 2 ^ b + n, h2, rfl, m2⟩⟩
    · obtain ⟨k, rfl⟩ := ix (show 0 < k by omega)
      rw [getPrefix_at _ l.length b (f / 2 ^ b * 2 ^ b + n) (by simp; omega) hb (by simp) (by simp) h2 k, m1, if_pos (by omega)]
      rfl
    · obtain ⟨k, rfl⟩ := ix (show 0 < k by omega)
      exact getPrefix_out _ _ b (by simp; omega) hb (by simp) k
  · obtain ⟨h1, h2⟩ := first_byte (b := b) (f := f) (m := 2 ^ b - 1) hb hf (by omega)
    obtain ⟨m1, m2⟩ := mod_hi (b := b) (f := f) (m := 2 ^ b - 1) hb (by omega)
    have ht : pfxTail b n f = ((f / 2 ^ b * 2 ^ b + (2 ^ b - 1) : Nat) : Int) :: vi (n - (2 ^ b - 1)) := by unfold pfxTail; rw [if_neg h, h1]
    have hv4 := vi_length 3 (n - (2 ^ b - 1)) (by rw [pow4]; omega)
    rw [ht]
    refine ⟨fun k hk => ?_, fun k hk => ?_, ⟨f / 2 ^ b * 2 ^ b + (2 ^ b - 1), h2, rfl, m2⟩⟩
    · obtain ⟨k, rfl⟩ := ix (show 0 < k by omega)
      rw [getPrefix_at _ l.length b (f / 2 ^ b * 2 ^ b + (2 ^ b - 1)) (by simp; omega) hb (by simp) (by simp) h2 k, m1, if_neg (by omega)]
      have e : l ++ ((f / 2 ^ b * 2 ^ b + (2 ^ b - 1) : Nat) : Int) :: vi (n - (2 ^ b - 1)) ++ r = (l ++ [((f / 2 ^ b * 2 ^ b + (2 ^ b - 1) : Nat) : Int)]) ++ vi (n - (2 ^ b - 1)) ++ r := by simp
      have := read_vi 3 (n - (2 ^ b - 1)) 0 (l ++ [((f / 2 ^ b * 2 ^ b + (2 ^ b - 1) : Nat) : Int)]) r (2 ^ b - 1) (by rw [pow4]; omega) (by omega) (by simp; omega) (by simp; omega) k (by omega)
      have el : (((l ++ [((f / 2 ^ b * 2 ^ b + (2 ^ b - 1) : Nat) : Int)]).length : Nat) : Int) = ((l.length + 1 : Nat) : Int) := by simp
      rw [el] at this
      rw [e]
      refine this.trans ?_
      have ea : 2 ^ b - 1 + (n - (2 ^ b - 1)) * 128 ^ 0 = n := by simp; omega
      rw [ea]
      congr 3
      simp
      omega
    · obtain ⟨k, rfl⟩ := ix (show 0 < k by omega)
      rw [List.dropLast_cons_of_ne_nil (vi_ne _)]
      rw [getPrefix_at _ l.length b (f / 2 ^ b * 2 ^ b + (2 ^ b - 1)) (by simp; omega) hb (by simp) (by simp) h2 k, m1, if_neg (by omega)]
      have e : l ++ ((f / 2 ^ b * 2 ^ b + (2 ^ b - 1) : Nat) : Int) :: (vi (n - (2 ^ b - 1))).dropLast = (l ++ [((f / 2 ^ b * 2 ^ b + (2 ^ b - 1) : Nat) : Int)]) ++ (vi (n - (2 ^ b - 1))).dropLast := by simp
      have := read_cut 3 (n - (2 ^ b - 1)) 0 (l ++ [((f / 2 ^ b * 2 ^ b + (2 ^ b - 1) : Nat) : Int)]) (2 ^ b - 1) (by rw [pow4]; omega) (by omega) (by simp; omega) (by simp; omega) k (by omega)
      have el : (((l ++ [((f / 2 ^ b * 2 ^ b + (2 ^ b - 1) : Nat) : Int)]).length : Nat) : Int) = ((l.length + 1 : Nat) : Int) := by simp
      rw [el] at this
      rw [e]
      exact this
end Go.Proofs.YthflimnpiglgbaaDoor.LibGP
namespace Go.Proofs.YthflimnpiglgbaaDoor.LibD
open Go.RowKit Go.Proofs.YthflimnpiglgbaaDoor.A Go.Proofs.YthflimnpiglgbaaDoorW.PrintWords Go.Proofs.YthflimnpiglgbaaDoorW.PrintLast Go.Proofs.YthflimnpiglgbaaDoorW.PrintMore Go.Proofs.YthflimnpiglgbaaDoor.LibU Go.Proofs.YthflimnpiglgbaaDoor.LibBits
/-- A cursor's place. -/
def CI (b : List Int) (i : Int) : Prop := 0 ≤ i ∧ i ≤ b.length ∧ b.length ≤ 140737488351232
theorem and255 (y : Int) : 0 ≤ Go.bits .and .i64 y 255 ∧ Go.bits .and .i64 y 255 ≤ 255 := by
  have e : ((BitVec.ofInt IntKind.i64.bits y &&& BitVec.ofInt IntKind.i64.bits 255).toNat : Nat) ≤ 255 := by
    rw [BitVec.toNat_and]
    have h : (BitVec.ofInt IntKind.i64.bits 255).toNat = 255 := by decide
    rw [h]
    exact Nat.and_le_right
  have h2 : Go.bits .and .i64 y 255 = (((BitVec.ofInt IntKind.i64.bits y &&& BitVec.ofInt IntKind.i64.bits 255).toNat : Nat) : Int) := by
    have e2 : ((BitVec.ofInt IntKind.i64.bits y &&& BitVec.ofInt IntKind.i64.bits 255).toNat : Int) < 2 ^ 63 := by
      have e63 : (2 : Int) ^ 63 = 9223372036854775808 := by decide
      rw [e63]
      omega
    exact wraps_i64 _ (Int.natCast_nonneg _) e2
  rw [h2]
  omega
theorem l1Byte (b : List Int) (i h : Int) (hi : CI b i) : ∃ x i' h', spec_l1Byte.f b i h = some (x, i', h') ∧ 0 ≤ x ∧ x ≤ 255 ∧ CI b i' := by
  unfold CI at *
  unfold spec_l1Byte.f
  by_cases h1 : i < (b.length : Int)
  · rw [if_pos h1, if_pos hi.1]
    refine ⟨_, _, _, rfl, (and255 _).1, (and255 _).2, ?_⟩
    rw [w64 (by omega) (by omega)]
    omega
  · rw [if_neg h1]
    exact ⟨_, _, _, rfl, (and255 _).1, (and255 _).2, hi⟩
theorem l1Below (b : List Int) (i h n : Int) (hn : n ≤ 1000000) (hi : CI b i) : ∃ x i' h', spec_l1Below.f b i h n = some (x, i', h') ∧ 0 ≤ x ∧ (0 < n → x < n) ∧ (n ≤ 0 → x = 0) ∧ CI b i' := by
  unfold spec_l1Below.f
  by_cases h0 : n ≤ 0
  · rw [if_pos h0]
    exact ⟨_, _, _, rfl, by omega, by omega, fun _ => rfl, hi⟩
  · rw [if_neg h0]
    by_cases h1 : n ≤ 256
    · rw [if_pos h1]
      obtain ⟨x, i', h', e, hx0, hx1, hi'⟩ := l1Byte b i h hi
      rw [e]
      simp only [Option.bind_some]
      rw [if_neg (by omega)]
      refine ⟨_, _, _, rfl, ?_, ?_, by omega, hi'⟩
      · rw [Int.tmod_eq_emod_of_nonneg hx0]; exact Int.emod_nonneg _ (by omega)
      · intro _; rw [Int.tmod_eq_emod_of_nonneg hx0]; exact Int.emod_lt_of_pos _ (by omega)
    · rw [if_neg h1]
      obtain ⟨x, i1, q1, e1, hx0, hx1, hi1⟩ := l1Byte b i h hi
      rw [e1]
      simp only [Option.bind_some]
      obtain ⟨y, i2, q2, e2, hy0, hy1, hi2⟩ := l1Byte b i1 q1 hi1
      rw [e2]
      simp only [Option.bind_some]
      obtain ⟨z, i3, q3, e3, hz0, hz1, hi3⟩ := l1Byte b i2 q2 hi2
      rw [e3]
      simp only [Option.bind_some]
      rw [if_neg (by omega), w64 (x := x * 65536) (by omega) (by omega), w64 (x := y * 256) (by omega) (by omega), w64 (x := x * 65536 + y * 256) (by omega) (by omega), w64 (by omega) (by omega)]
      refine ⟨_, _, _, rfl, ?_, ?_, by omega, hi3⟩
      · rw [Int.tmod_eq_emod_of_nonneg (by omega)]; exact Int.emod_nonneg _ (by omega)
      · intro _; rw [Int.tmod_eq_emod_of_nonneg (by omega)]; exact Int.emod_lt_of_pos _ (by omega)
theorem l1New (b : List Int) (hl : b.length ≤ 140737488351232) : ∃ K q, (∀ k, K ≤ k → spec_l1New.f k b = some (b, 0, q)) ∧ CI b 0 := by
  have key : ∀ (d : Nat) (i : Nat) (x : Int), i ≤ b.length → b.length - i = d → ∃ q, ∀ k, d < k → spec_l1New.l0 k b x (i : Int) = some (b, 0, q) := by
    intro d
    induction d with
    | zero =>
      intro i x hi hd
      refine ⟨x, fun k hk => ?_⟩
      obtain ⟨k, rfl⟩ := ix (show 0 < k by omega)
      simp only [spec_l1New.l0]
      rw [if_neg (by omega)]
    | succ d ih =>
      intro i x hi hd
      by_cases h : (i : Int) < 4000
      · obtain ⟨q, hq⟩ := ih (i + 1) (Go.bits .and .i64 (wrap64 ((wrap64 ((wrap64 (x * 137)) + (wrap64 (rd b i)))) + 11)) 1073741823) (by omega) (by omega)
        refine ⟨q, fun k hk => ?_⟩
        obtain ⟨k, rfl⟩ := ix (show 0 < k by omega)
        simp only [spec_l1New.l0]
        rw [if_pos (by omega), if_pos h, if_pos (by omega), w64 (x := (i : Int) + 1) (by omega) (by omega)]
        exact hq k (by omega)
      · refine ⟨x, fun k hk => ?_⟩
        obtain ⟨k, rfl⟩ := ix (show 0 < k by omega)
        simp only [spec_l1New.l0]
        rw [if_pos (by omega), if_neg h]
  obtain ⟨q, hq⟩ := key b.length 0 (wrap64 (369369 + (b.length : Int))) (by omega) (by omega)
  exact ⟨b.length + 1, q, fun k hk => hq k (by omega), by unfold CI; omega⟩
end Go.Proofs.YthflimnpiglgbaaDoor.LibD
namespace Go.Proofs.YthflimnpiglgbaaDoor.LibD
open Go.RowKit Go.Proofs.YthflimnpiglgbaaDoor.A Go.Proofs.YthflimnpiglgbaaDoorW.PrintWords Go.Proofs.YthflimnpiglgbaaDoorW.PrintLast Go.Proofs.YthflimnpiglgbaaDoorW.PrintMore Go.Proofs.YthflimnpiglgbaaDoor.LibU Go.Proofs.YthflimnpiglgbaaDoor.LibBits
theorem l1Int (b : List Int) (i h : Int) (l : List Int) (hl : 0 < l.length ∧ l.length ≤ 1000) (hi : CI b i) : ∃ x i' h', spec_l1Int.f b i h l = some (x, i', h') ∧ x ∈ l ∧ CI b i' := by
  unfold spec_l1Int.f
  obtain ⟨x, i', h', e, hx0, hx1, _, hi'⟩ := l1Below b i h l.length (by omega) hi
  rw [e]
  simp only [Option.bind_some]
  have hx := hx1 (by omega)
  rw [if_pos hx0, if_pos hx]
  refine ⟨_, _, _, rfl, ?_, hi'⟩
  unfold rd
  rw [List.getD_eq_getElem?_getD, List.getElem?_eq_getElem (show x.toNat < l.length by omega)]
  exact List.getElem_mem _
def Bytes (l : List Int) : Prop := ∀ x ∈ l, 0 ≤ x ∧ x ≤ 255
theorem l1Bytes (b : List Int) (i h n : Int) (hn : n ≤ 1000000) (hi : CI b i) : ∃ K l i' h', (∀ k, K ≤ k → spec_l1Bytes.f k b i h n = some (l, i', h')) ∧ Bytes l ∧ (l.length : Int) = max n 0 ∧ CI b i' := by
  have key : ∀ (d : Nat) (j : Nat) (x : List Int) (i h : Int), CI b i → Bytes x → x.length = j → n.toNat - j = d → (j : Int) ≤ max n 0 → ∃ l i' h', (∀ k, d < k → spec_l1Bytes.l0 k n x (j : Int) b i h = some (l, i', h')) ∧ Bytes l ∧ (l.length : Int) = max n 0 ∧ CI b i' := by
    intro d
    induction d with
    | zero =>
      intro j x i h hi hx hj hd hjn
      refine ⟨x, i, h, fun k hk => ?_, hx, by omega, hi⟩
      obtain ⟨k, rfl⟩ := ix (show 0 < k by omega)
      simp only [spec_l1Bytes.l0]
      rw [if_neg (by omega)]
    | succ d ih =>
      intro j x i h hi hx hj hd hjn
      obtain ⟨y, i1, q1, e1, hy0, hy1, hi1⟩ := l1Byte b i h hi
      obtain ⟨l, i', h', e, hl, hln, hi'⟩ := ih (j + 1) (x ++ [y % 256]) i1 q1 hi1 (by
        intro z hz
        rcases List.mem_append.1 hz with hz | hz
        · exact hx z hz
        · rw [List.mem_singleton.1 hz]; omega) (by simp [hj]) (by omega) (by omega)
      refine ⟨l, i', h', fun k hk => ?_, hl, hln, hi'⟩
      obtain ⟨k, rfl⟩ := ix (show 0 < k by omega)
      simp only [spec_l1Bytes.l0]
      rw [if_pos (by omega), e1]
      simp only [Option.bind_some]
      rw [if_pos (by omega), w64 (x := (j : Int) + 1) (by omega) (by omega)]
      exact e k (by omega)
  obtain ⟨l, i', h', e, h1, h2, h3⟩ := key n.toNat 0 [] i h hi (by intro x hx; cases hx) rfl (by omega) (by omega)
  exact ⟨n.toNat + 1, l, i', h', fun k hk => e k (by omega), h1, h2, h3⟩
theorem l1Some (b : List Int) (i h : Int) (hi : CI b i) : ∃ K l i' h', (∀ k, K ≤ k → spec_l1Some.f k b i h = some (l, i', h')) ∧ Bytes l ∧ l.length ≤ 9 ∧ CI b i' := by
  obtain ⟨n, i1, q1, e1, hn, hi1⟩ := l1Int b i h [0, 1, 2, 5, 9] (by decide) hi
  have hn' : n = 0 ∨ n = 1 ∨ n = 2 ∨ n = 5 ∨ n = 9 := by simpa using hn
  obtain ⟨K, l, i2, q2, e2, hl, hlen, hi2⟩ := l1Bytes b i1 q1 n (by omega) hi1
  refine ⟨K, l, i2, q2, fun k hk => ?_, hl, by omega, hi2⟩
  unfold spec_l1Some.f
  exact bs e1 (bs (e2 k hk) rfl)
end Go.Proofs.YthflimnpiglgbaaDoor.LibD
namespace Go.Proofs.YthflimnpiglgbaaDoor.LibDs
open Go.RowKit Go.Proofs.YthflimnpiglgbaaDoor.A Go.Proofs.YthflimnpiglgbaaDoorW.PrintWords Go.Proofs.YthflimnpiglgbaaDoorW.PrintLast Go.Proofs.YthflimnpiglgbaaDoorW.PrintMore Go.Proofs.YthflimnpiglgbaaDoor.LibU Go.Proofs.YthflimnpiglgbaaDoor.LibD
theorem l1Str (b : List Int) (i h : Int) (l : List ByteArray) (hl : 0 < l.length ∧ l.length ≤ 1000) (hi : CI b i) : ∃ x i' h', spec_l1Str.f b i h l = some (x, i', h') ∧ x ∈ l ∧ CI b i' := by
  unfold spec_l1Str.f
  obtain ⟨x, i', h', e, hx0, hx1, _, hi'⟩ := l1Below b i h l.length (by omega) hi
  rw [e]
  simp only [Option.bind_some]
  have hx2 := hx1 (by omega)
  obtain ⟨n, rfl⟩ := Int.eq_ofNat_of_zero_le hx0
  have hn : n < l.length := by omega
  rw [if_pos hx0, if_pos (by omega)]
  refine ⟨_, _, _, rfl, ?_, hi'⟩
  have e : rdOf ByteArray.empty l (n : Int) = l[n] := by simp [rdOf, List.getD_eq_getElem?_getD, List.getElem?_eq_getElem hn]
  rw [e]
  exact List.getElem_mem hn
theorem some_l (b : List Int) (d : Nat) : ∀ (n : Nat) (s : ByteArray) (i h : Int), n = d → n ≤ 10 → s.size + 20 * d ≤ 1000 → CI b i → ∃ s' i' h', (∀ k, d < k → spec_l3Some.l0 k s (n : Int) b i h = some (s', i', h')) ∧ s'.size ≤ s.size + 20 * d ∧ CI b i' := by
  induction d with
  | zero =>
    intro n s i h hn hn2 hs hi
    refine ⟨s, i, h, fun k hk => ?_, by omega, hi⟩
    obtain ⟨k, rfl⟩ := ix (show 0 < k by omega)
    simp only [spec_l3Some.l0]
    rw [if_neg (by omega)]
  | succ d ih =>
    intro n s i h hn hn2 hs hi
    obtain ⟨x, i1, h1, e, hx, hi1⟩ := l1Str b i h (((⟨#[97]⟩ : ByteArray) :: (⟨#[71, 69, 84]⟩ : ByteArray) :: (⟨#[47, 120]⟩ : ByteArray) :: (⟨#[48]⟩ : ByteArray) :: (⟨#[119, 119, 119, 46, 101, 120, 97, 109, 112, 108, 101, 46, 99, 111, 109]⟩ : ByteArray) :: (⟨#[0]⟩ : ByteArray) :: (⟨#[126]⟩ : ByteArray) :: (⟨#[255]⟩ : ByteArray) :: (⟨#[123]⟩ : ByteArray) :: (⟨#[90]⟩ : ByteArray) :: (⟨#[32]⟩ : ByteArray) :: [] : List ByteArray)) (by simp) hi
    have hx2 : x.size ≤ 20 := by
      simp only [List.mem_cons, List.mem_nil_iff, or_false] at hx
      rcases hx with rfl | rfl | rfl | rfl | rfl | rfl | rfl | rfl | rfl | rfl | rfl <;> decide
    have hsx : (s ++ x).size = s.size + x.size := ByteArray.size_append
    obtain ⟨s', i', h', g1, g2, g3⟩ := ih d (s ++ x) i1 h1 rfl (by omega) (by omega) hi1
    refine ⟨s', i', h', fun k hk => ?_, by omega, g3⟩
    obtain ⟨k, rfl⟩ := ix (show 0 < k by omega)
    simp only [spec_l3Some.l0]
    rw [if_pos (by omega)]
    refine bs e ?_
    rw [if_pos (by show s.size + x.size ≤ 9223372036854775807; omega), w64 (by omega) (by omega), show (n : Int) - 1 = (d : Int) by omega]
    exact g1 k (by omega)
theorem l3Some (b : List Int) (i h : Int) (hi : CI b i) : ∃ s i' h', (∀ k, 10 ≤ k → spec_l3Some.f k b i h = some (s, i', h')) ∧ s.size ≤ 200 ∧ CI b i' := by
  obtain ⟨x, i1, h1, e, hx0, hx1, _, hi1⟩ := l1Below b i h 6 (by omega) hi
  obtain ⟨n, rfl⟩ := Int.eq_ofNat_of_zero_le hx0
  have hn := hx1 (by omega)
  have hz : (⟨#[]⟩ : ByteArray).size + 20 * n ≤ 1000 := by
    show 0 + 20 * n ≤ 1000
    omega
  obtain ⟨s', i', h', g1, g2, g3⟩ := some_l b n n ⟨#[]⟩ i1 h1 rfl (by omega) hz hi1
  refine ⟨s', i', h', fun k hk => ?_, ?_, g3⟩
  · unfold spec_l3Some.f
    refine bs e ?_
    exact g1 k (by omega)
  · have : (⟨#[]⟩ : ByteArray).size = 0 := rfl
    omega
theorem drawHuff (l : List Int) (hl : l.length ≤ 140737488351232) : ∃ K s, (∀ k, K ≤ k → spec_DrawHuff.f k l = some s) ∧ s.size ≤ 200 := by
  obtain ⟨K, q, h1, h2⟩ := l1New l hl
  obtain ⟨s, i', h', g1, g2, g3⟩ := l3Some l 0 q h2
  refine ⟨K + 10, s, fun k hk => ?_, g2⟩
  unfold spec_DrawHuff.f
  refine bs (h1 k (by omega)) ?_
  refine bs (g1 k (by omega)) ?_
  rfl
end Go.Proofs.YthflimnpiglgbaaDoor.LibDs
