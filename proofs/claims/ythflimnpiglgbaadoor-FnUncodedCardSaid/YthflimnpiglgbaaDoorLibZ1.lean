/- Small laws of numbers and rounds, and the two tests of a range. No condition beyond each theorem's own. Huffman's code: the reference's tables are the program's. No condition. unHuff and the reference's UnHuff: what bits decode to. Condition: each theorem's own bounds. UnHuff: the reference's answer is the program's. Condition: each theorem's own bounds. Huff: the reference's loops are the program's. Condition: each theorem's own bounds. The draws: what a cursor gives lies in its range, and it stays a cursor. Condition: each theorem's own bounds. Drawn numbers out of a list, and drawn bytes. Condition: each theorem's own bounds. Drawn texts. Condition: each theorem's own bounds. -/
import Derived.Test.YthflimnpiglgbaaDoorWMore
import Derived.Test.YthflimnpiglgbaaDoorLibK
import Derived.Test.YthflimnpiglgbaaDoorLibK2
import Derived.Test.YthflimnpiglgbaaDoorLibBits
import Derived.Test.YthflimnpiglgbaaDoorAx1
import Derived.Test.YthflimnpiglgbaaDoorAx5
import Derived.Test.YthflimnpiglgbaaDoorAx9
import Derived.Test.YthflimnpiglgbaaDoorAx10
import Derived.Test.YthflimnpiglgbaaDoorAx15
import Derived.Test.YthflimnpiglgbaaDoorAx16
import Derived.Test.YthflimnpiglgbaaDoorAx17
import Derived.Test.YthflimnpiglgbaaDoorAx18
import Derived.Test.YthflimnpiglgbaaDoorAx20
import Derived.Test.YthflimnpiglgbaaDoorAx21
import Derived.Test.YthflimnpiglgbaaDoorAx24
import Derived.Test.YthflimnpiglgbaaDoorAx25
set_option linter.unusedVariables false
set_option linter.unusedSimpArgs false
namespace Go.Proofs.YthflimnpiglgbaaDoor.LibU
open Go.RowKit Go.Proofs.YthflimnpiglgbaaDoor.A Go.Proofs.YthflimnpiglgbaaDoorW.PrintWords Go.Proofs.YthflimnpiglgbaaDoorW.PrintLast Go.Proofs.YthflimnpiglgbaaDoorW.PrintMore
theorem w64 {x : Int} (h0 : -9223372036854775808 ≤ x) (h1 : x ≤ 9223372036854775807) : wrap64 x = x := by unfold wrap64; omega
theorem u64_nn (x : Int) : 0 ≤ IntKind.u64.wrap x := by
  unfold IntKind.wrap
  simp only [IntKind.signed, IntKind.bits, Bool.false_and]
  simp only [Bool.false_eq_true, if_false]
  omega
theorem ix {k : Nat} (h : 0 < k) : ∃ m, k = m + 1 := ⟨k - 1, by omega⟩
/-- One callee's answer, and what follows. -/
theorem bs {α β : Type} {o : Option α} {a : α} {f : α → Option β} {r : Option β} (h : o = some a) (h' : f a = r) : o.bind f = r := by rw [h]; exact h'
theorem ifp {α : Type} {c : Prop} [Decidable c] {a b r : α} (h : c) (h' : a = r) : (if c then a else b) = r := by rw [if_pos h]; exact h'
theorem ifn {α : Type} {c : Prop} [Decidable c] {a b r : α} (h : ¬ c) (h' : b = r) : (if c then a else b) = r := by rw [if_neg h]; exact h'
theorem rd_nat (l : List Int) (i : Nat) : rd l (i : Int) = l.getD i 0 := by simp [rd]
theorem wf64 {a : Int} (h : (Lit.int .i64 a).wf = true) : -9223372036854775808 ≤ a ∧ a ≤ 9223372036854775807 := by
  simp only [Lit.wf, IntKind.min, IntKind.max, IntKind.signed, IntKind.bits, Bool.and_eq_true, decide_eq_true_eq, if_true] at h
  omega
theorem wf8 {a : Int} (h : (Lit.int .u8 a).wf = true) : 0 ≤ a ∧ a ≤ 255 := by
  simp only [Lit.wf, IntKind.min, IntKind.max, IntKind.signed, IntKind.bits, Bool.and_eq_true, decide_eq_true_eq, if_true, Bool.false_eq_true, if_false] at h
  omega
theorem inRange (a b c : Int) : impl_inRange.f a b c = some (decide (b ≤ a ∧ a ≤ c)) := by
  unfold impl_inRange.f
  by_cases h : a ≥ b
  · rw [if_pos h]; congr 1; simp only [decide_eq_decide]; omega
  · rw [if_neg h]; congr 1; symm; simp only [decide_eq_false_iff_not]; omega
end Go.Proofs.YthflimnpiglgbaaDoor.LibU
namespace Go.Proofs.YthflimnpiglgbaaDoor.LibHc
open Go Go.RowKit Go.Proofs.YthflimnpiglgbaaDoor.A Go.Proofs.YthflimnpiglgbaaDoorW.PrintWords Go.Proofs.YthflimnpiglgbaaDoorW.PrintLast Go.Proofs.YthflimnpiglgbaaDoorW.PrintMore Go.Proofs.YthflimnpiglgbaaDoor.LibU Go.Proofs.YthflimnpiglgbaaDoor.LibLens Go.Proofs.YthflimnpiglgbaaDoor.LibHuff Go.Proofs.YthflimnpiglgbaaDoor.LibHuffB Go.Proofs.YthflimnpiglgbaaDoor.LibWrap
theorem l1In (a b c : Int) : spec_l1In.f a b c = some (decide (b ≤ a ∧ a ≤ c)) := by
  unfold spec_l1In.f
  by_cases h : a ≥ b
  · rw [if_pos h]; congr 1; simp only [decide_eq_decide]; omega
  · rw [if_neg h]; congr 1; symm; simp only [decide_eq_false_iff_not]; omega
theorem lens : spec_l3Lens.f = some lensI := rfl
set_option maxRecDepth 100000 in
theorem codes0 : spec_l3Codes.f 8100 = some bitsI := by decide +kernel
theorem codes (k : Nat) (hk : 8100 ≤ k) : spec_l3Codes.f k = some bitsI := at_rounds spec_l3Codes.mono hk codes0
end Go.Proofs.YthflimnpiglgbaaDoor.LibHc
namespace Go.Proofs.YthflimnpiglgbaaDoor.LibUh
open Go Go.RowKit Go.Proofs.YthflimnpiglgbaaDoor.A Go.Proofs.YthflimnpiglgbaaDoorW.PrintWords Go.Proofs.YthflimnpiglgbaaDoorW.PrintLast Go.Proofs.YthflimnpiglgbaaDoorW.PrintMore Go.Proofs.YthflimnpiglgbaaDoor.LibLens Go.Proofs.YthflimnpiglgbaaDoor.LibHuff Go.Proofs.YthflimnpiglgbaaDoor.LibHuffB Go.Proofs.YthflimnpiglgbaaDoor.LibMap Go.Proofs.YthflimnpiglgbaaDoor.LibUnH Go.Proofs.YthflimnpiglgbaaDoor.LibHp Go.Proofs.YthflimnpiglgbaaDoor.LibBits Go.Proofs.YthflimnpiglgbaaDoor.LibHb Go.Proofs.YthflimnpiglgbaaDoor.LibHf
theorem bs {α β : Type} {o : Option α} {a : α} {f : α → Option β} {r : Option β} (h : o = some a) (h' : f a = r) : o.bind f = r := by rw [h]; exact h'
/-- One bit more. -/
theorem or_bit (acc n d : Nat) (hd : d < 2) (ha : acc < 2 ^ n) (hn : n ≤ 30) : Go.bits .or .i64 (wrap64 ((acc : Int) * 2)) (d : Int) = ((2 * acc + d : Nat) : Int) ∧ 2 * acc + d < 2 ^ (n + 1) := by
  have hp : (2 : Nat) ^ n ≤ 2 ^ 30 := Nat.pow_le_pow_right (by omega) hn
  have e : wrap64 ((acc : Int) * 2) = ((acc * 2 ^ 1 : Nat) : Int) := by rw [w64 (by omega) (by omega)]; omega
  refine ⟨?_, by rw [Nat.pow_succ]; omega⟩
  rw [e, or_nat acc d 1 (by omega) (by omega) (by omega)]
  congr 1
  omega
/-- What the row's bits are, as bytes of a text. -/
def toI (js : List Nat) : List Int := js.map fun j => ((j : Nat) : Int)
/-- The reference's loop over bits. -/
def su : List Int → Nat → Nat → List Int → ByteArray × Bool
  | [], acc, n, out => if n > 7 then (⟨#[]⟩, false) else if acc = 2 ^ n - 1 then (strOfNums out, true) else (⟨#[]⟩, false)
  | d :: ds, acc, n, out =>
    if n + 1 > 30 then (⟨#[]⟩, false) else
    match lookC (((2 * acc + d.toNat : Nat) : Int), ((n + 1 : Nat) : Int)) with
    | some j => if j = 256 then su ds (2 * acc + d.toNat) (n + 1) out else su ds 0 0 (out ++ [(j : Int)])
    | none => su ds (2 * acc + d.toNat) (n + 1) out
theorem su_over (ds : List Int) (acc : Nat) (out : List Int) : su ds acc 30 out = (⟨#[]⟩, false) := by
  cases ds with
  | nil => simp only [su]; rw [if_pos (by omega)]
  | cons d ds => rw [su, if_pos (by omega)]
/-- Decoding: what is there, what its codes are, and what is left; and what the reference says of it. -/
theorem dec (ds : List Int) : ∀ (acc n : Nat) (out : List Int), (∀ d ∈ ds, d = 0 ∨ d = 1) → acc < 2 ^ n → n ≤ 30 →
    ∃ (js : List Nat) (rest : List Int), (∀ j ∈ js, j < 256) ∧ uh ds (acc : Int) (n : Int) out = out ++ toI js ∧ nb acc n ++ ds = cbs js ++ rest ∧
      ((rest = List.replicate rest.length 1 ∧ rest.length ≤ 7 ∧ su ds acc n out = (strOfNums (out ++ toI js), true)) ∨ (¬ (rest = List.replicate rest.length 1 ∧ rest.length ≤ 7) ∧ su ds acc n out = (⟨#[]⟩, false))) := by
  induction ds with
  | nil =>
    intro acc n out hd ha hn
    refine ⟨[], nb acc n, by simp, by simp [uh, toI], by simp [cbs], ?_⟩
    rw [nb_len]
    by_cases h7 : n > 7
    · right
      exact ⟨fun h => by omega, by simp [su, h7]⟩
    · by_cases he : acc = 2 ^ n - 1
      · left
        refine ⟨by rw [he, nb_ones], by omega, ?_⟩
        simp only [su]
        rw [if_neg h7, if_pos he]
        simp [toI]
      · right
        refine ⟨fun h => he ?_, ?_⟩
        · have hpos : 0 < 2 ^ n := Nat.pow_pos (by omega)
          exact nb_inj n acc (2 ^ n - 1) ha (by omega) (by rw [nb_ones]; exact h.1)
        · simp only [su]
          rw [if_neg h7, if_neg he]
  | cons d ds ih =>
    intro acc n out hd ha hn
    obtain ⟨b, hb⟩ : ∃ b : Nat, d = (b : Int) := ⟨d.toNat, by rcases hd d (List.mem_cons_self ..) with h | h <;> omega⟩
    have hb2 : b < 2 := by rcases hd d (List.mem_cons_self ..) with h | h <;> omega
    subst hb
    have hd' : ∀ d ∈ ds, d = 0 ∨ d = 1 := fun x hx => hd x (List.mem_cons_of_mem _ hx)
    obtain ⟨e1, e2⟩ := or_bit acc n b hb2 ha hn
    have e3 : wrap64 ((n : Int) + 1) = ((n + 1 : Nat) : Int) := by rw [w64 (by omega) (by omega)]; omega
    have eb : nb acc n ++ (b : Int) :: ds = nb (2 * acc + b) (n + 1) ++ ds := by rw [nb_snoc acc b n hb2, List.append_assoc]; rfl
    cases hlk : lookC (((2 * acc + b : Nat) : Int), ((n + 1 : Nat) : Int)) with
    | none =>
      rw [uh, e1, e3, hlk]
      simp only
      by_cases h30 : ((n + 1 : Nat) : Int) > 30
      · rw [if_pos h30]
        refine ⟨[], nb acc n ++ (b : Int) :: ds, by simp, by simp [toI], by simp [cbs], .inr ⟨fun h => ?_, ?_⟩⟩
        · have := h.2
          simp only [List.length_append, nb_len, List.length_cons] at this
          omega
        · have : n = 30 := by omega
          subst this
          exact su_over _ _ _
      · rw [if_neg h30]
        obtain ⟨js, rest, g1, g2, g3, g4⟩ := ih (2 * acc + b) (n + 1) out hd' e2 (by omega)
        refine ⟨js, rest, g1, g2, by rw [eb]; exact g3, ?_⟩
        have es : su ((b : Int) :: ds) acc n out = su ds (2 * acc + b) (n + 1) out := by
          rw [su, if_neg (by omega), Int.toNat_natCast, hlk]
        rw [es]
        exact g4
    | some j =>
      rw [uh, e1, e3, hlk]
      simp only
      obtain ⟨hj, hq⟩ := look_some hlk
      simp only [Prod.mk.injEq] at hq
      have hbd := bnds hj
      have hn1 : n + 1 = cs j := by omega
      have ha1 : 2 * acc + b = cb j := by omega
      by_cases h256 : j = 256
      · rw [if_pos h256]
        have h30 : n + 1 = 30 := by rw [hn1, h256, eos.2]
        refine ⟨[], nb acc n ++ (b : Int) :: ds, by simp, by simp [toI], by simp [cbs], .inr ⟨fun h => ?_, ?_⟩⟩
        · have := h.2
          simp only [List.length_append, nb_len, List.length_cons] at this
          omega
        · rw [su, if_neg (by omega), Int.toNat_natCast, hlk]
          simp only
          rw [if_pos h256, h30]
          exact su_over _ _ _
      · rw [if_neg h256, if_neg (by omega)]
        have ej : ((j : Int)) % 256 = (j : Int) := by omega
        rw [ej]
        obtain ⟨js, rest, g1, g2, g3, g4⟩ := ih 0 0 (out ++ [(j : Int)]) hd' (by omega) (by omega)
        refine ⟨j :: js, rest, ?_, ?_, ?_, ?_⟩
        · intro x hx
          rcases List.mem_cons.1 hx with rfl | hx
          · omega
          · exact g1 x hx
        · rw [show ((0 : Nat) : Int) = 0 from rfl] at g2
          rw [g2]
          simp [toI]
        · rw [eb, cbs_cons, ha1, hn1, List.append_assoc, ← g3]
          simp [nb]
        · have es : su ((b : Int) :: ds) acc n out = su ds 0 0 (out ++ [(j : Int)]) := by
            rw [su, if_neg (by omega), Int.toNat_natCast, hlk]
            simp only
            rw [if_neg h256]
          rw [es]
          have et : out ++ [(j : Int)] ++ toI js = out ++ toI (j :: js) := by simp [toI]
          rw [et] at g4
          exact g4
/-! The way back -/
theorem uh_some {d : Int} {ds : List Int} {acc n : Int} {out : List Int} {j : Nat} (h : lookC (Go.bits .or .i64 (wrap64 (acc * 2)) d, wrap64 (n + 1)) = some j) (hj : ¬ j = 256) (hn : ¬ wrap64 (n + 1) > 30) : uh (d :: ds) acc n out = uh ds 0 0 (out ++ [(j : Int) % 256]) := by
  rw [uh, h]
  exact (if_neg hj).trans (if_neg hn)
theorem uh_none {d : Int} {ds : List Int} {acc n : Int} {out : List Int} (h : lookC (Go.bits .or .i64 (wrap64 (acc * 2)) d, wrap64 (n + 1)) = none) (hn : ¬ wrap64 (n + 1) > 30) : uh (d :: ds) acc n out = uh ds (Go.bits .or .i64 (wrap64 (acc * 2)) d) (wrap64 (n + 1)) out := by
  rw [uh, h]
  exact if_neg hn
theorem uh_code {j : Nat} (hj : j < 256) (d : Nat) : ∀ (p : Nat) (ds out : List Int), p ≤ cs j → cs j - p = d → p < cs j →
    uh (nb (cb j) (cs j - p) ++ ds) ((cb j / 2 ^ (cs j - p) : Nat) : Int) (p : Int) out = uh ds 0 0 (out ++ [(j : Int)]) := by
  have hbd := bnds (i := j) (by omega)
  induction d with
  | zero => intro p ds out h1 h2 h3; omega
  | succ d ih =>
    intro p ds out h1 h2 h3
    have hc : cs j - p = (cs j - (p + 1)) + 1 := by omega
    have hlt : cb j / 2 ^ (cs j - p) < 2 ^ p := by
      refine Nat.div_lt_of_lt_mul ?_
      rw [← Nat.pow_add]
      have : cs j - p + p = cs j := by omega
      rw [this]
      exact hbd.2.2
    obtain ⟨e1, e2⟩ := or_bit (cb j / 2 ^ (cs j - p)) p (cb j / 2 ^ (cs j - (p + 1)) % 2) (Nat.mod_lt _ (by omega)) hlt (by omega)
    have e3 : wrap64 ((p : Int) + 1) = ((p + 1 : Nat) : Int) := by rw [w64 (by omega) (by omega)]; omega
    have e4 : 2 * (cb j / 2 ^ (cs j - p)) + cb j / 2 ^ (cs j - (p + 1)) % 2 = cb j / 2 ^ (cs j - (p + 1)) := by
      have : cb j / 2 ^ (cs j - p) = cb j / 2 ^ (cs j - (p + 1)) / 2 := by rw [hc, Nat.pow_succ, Nat.div_div_eq_div_mul]
      rw [this]
      omega
    rw [e4] at e1
    have en : nb (cb j) (cs j - p) = ((cb j / 2 ^ (cs j - (p + 1)) % 2 : Nat) : Int) :: nb (cb j) (cs j - (p + 1)) := by rw [hc]; rfl
    rw [en, List.cons_append]
    clear e4 e2 hlt hc en
    by_cases hlast : p + 1 = cs j
    · have hk := look_code (j := j) (by omega)
      have n1 : ¬ j = 256 := by omega
      have n2 : ¬ ((cs j : Nat) : Int) > 30 := by omega
      have ej : ((j : Int)) % 256 = (j : Int) := by omega
      have e5 : cb j / 2 ^ (cs j - (p + 1)) = cb j := by rw [hlast, Nat.sub_self, Nat.pow_zero, Nat.div_one]
      have hs := uh_some (d := ((cb j / 2 ^ (cs j - (p + 1)) % 2 : Nat) : Int)) (ds := nb (cb j) (cs j - (p + 1)) ++ ds) (acc := ((cb j / 2 ^ (cs j - p) : Nat) : Int)) (n := (p : Int)) (out := out) (j := j) (by rw [e1, e3, e5, hlast]; exact hk) n1 (by rw [e3, hlast]; exact n2)
      rw [hs]
      rw [ej, hlast, Nat.sub_self, show nb (cb j) 0 = [] from rfl, List.nil_append]
    · have hk := look_pre (j := j) (p := p + 1) (by omega) (by omega)
      have n2 : ¬ ((p + 1 : Nat) : Int) > 30 := by omega
      have hs := uh_none (d := ((cb j / 2 ^ (cs j - (p + 1)) % 2 : Nat) : Int)) (ds := nb (cb j) (cs j - (p + 1)) ++ ds) (acc := ((cb j / 2 ^ (cs j - p) : Nat) : Int)) (n := (p : Int)) (out := out) (by rw [e1, e3]; exact hk) (by rw [e3]; exact n2)
      rw [hs, e1, e3]
      exact ih (p + 1) ds out (by omega) (by omega) (by omega)
theorem uh_codes : ∀ (js : List Nat), (∀ j ∈ js, j < 256) → ∀ (ds out : List Int), uh (cbs js ++ ds) 0 0 out = uh ds 0 0 (out ++ toI js)
  | [], _, ds, out => by simp [cbs, toI]
  | j :: js, h, ds, out => by
    have hj := h j (List.mem_cons_self ..)
    have hbd := bnds (i := j) (by omega)
    have h1 := uh_code hj (cs j) 0 (cbs js ++ ds) out (by omega) (by omega) (by omega)
    have e0 : ((0 : Nat) : Int) = 0 := rfl
    rw [Nat.sub_zero, Nat.div_eq_of_lt hbd.2.2, e0] at h1
    rw [cbs_cons, List.append_assoc, h1]
    rw [uh_codes js (fun x hx => h x (List.mem_cons_of_mem _ hx))]
    simp [toI]
theorem uh_ones (k : Nat) : ∀ (n : Nat) (out : List Int), n + k ≤ 8 → uh (List.replicate k 1) ((2 ^ n - 1 : Nat) : Int) (n : Int) out = out := by
  induction k with
  | zero => intro n out h; rfl
  | succ k ih =>
    intro n out h
    have hpos : 0 < 2 ^ n := Nat.pow_pos (by omega)
    obtain ⟨e1, e2⟩ := or_bit (2 ^ n - 1) n 1 (by omega) (by omega) (by omega)
    have e3 : wrap64 ((n : Int) + 1) = ((n + 1 : Nat) : Int) := by rw [w64 (by omega) (by omega)]; omega
    have e4 : 2 * (2 ^ n - 1) + 1 = 2 ^ (n + 1) - 1 := by rw [Nat.pow_succ]; omega
    rw [e4] at e1
    have e5 : ((1 : Nat) : Int) = 1 := rfl
    rw [e5] at e1
    have n2 : ¬ ((n + 1 : Nat) : Int) > 30 := by omega
    have hk := look_ones (p := n + 1) (by omega)
    have hs := uh_none (d := 1) (ds := List.replicate k 1) (acc := ((2 ^ n - 1 : Nat) : Int)) (n := (n : Int)) (out := out) (by rw [e1, e3]; exact hk) (by rw [e3]; exact n2)
    rw [List.replicate_succ, hs, e1, e3]
    exact ih (n + 1) out (by omega)
theorem uh_huff (js : List Nat) (h : ∀ j ∈ js, j < 256) (p : Nat) (hp : p < 8) : uh (cbs js ++ List.replicate p 1) 0 0 [] = toI js := by
  rw [uh_codes js h]
  have h1 := uh_ones p 0 ([] ++ toI js) (by omega)
  have e0 : ((2 ^ 0 - 1 : Nat) : Int) = 0 := rfl
  rw [e0, List.nil_append] at h1
  rw [List.nil_append]
  exact h1
end Go.Proofs.YthflimnpiglgbaaDoor.LibUh
namespace Go.Proofs.YthflimnpiglgbaaDoor.LibUx
open Go Go.RowKit Go.Proofs.YthflimnpiglgbaaDoor.A Go.Proofs.YthflimnpiglgbaaDoorW.PrintWords Go.Proofs.YthflimnpiglgbaaDoorW.PrintLast Go.Proofs.YthflimnpiglgbaaDoorW.PrintMore Go.Proofs.YthflimnpiglgbaaDoor.LibLens Go.Proofs.YthflimnpiglgbaaDoor.LibHuff Go.Proofs.YthflimnpiglgbaaDoor.LibHuffB Go.Proofs.YthflimnpiglgbaaDoor.LibMap Go.Proofs.YthflimnpiglgbaaDoor.LibUnH Go.Proofs.YthflimnpiglgbaaDoor.LibHp Go.Proofs.YthflimnpiglgbaaDoor.LibBits Go.Proofs.YthflimnpiglgbaaDoor.LibHb Go.Proofs.YthflimnpiglgbaaDoor.LibHf Go.Proofs.YthflimnpiglgbaaDoor.LibUh Go.Proofs.YthflimnpiglgbaaDoor.LibWrap2
/-- What the reference's look-up says. -/
def tgt (o : Option Nat) : Int := match o with | some j => if j = 256 then -1 else (j : Int) | none => -1
theorem find_l (acc n : Nat) (o : Option Nat) (ho : lookC ((acc : Int), (n : Int)) = o) (d : Nat) : ∀ (k x : Nat), x ≤ 256 → 256 - x = d → d < k → (∀ i, i < x → ¬ (cb i = acc ∧ cs i = n)) → spec_l3Find.l0 k lensI bitsI (n : Int) (acc : Int) (x : Int) = some (tgt o) := by
  have hll := lensI_len
  have hbl := bitsI_len
  induction d with
  | zero =>
    intro k x hx hd hk h
    obtain ⟨k, rfl⟩ := LibHf.ix (show 0 < k by omega)
    have ht : tgt o = -1 := by
      cases o with
      | none => rfl
      | some j =>
        obtain ⟨hj, hq⟩ := look_some ho
        simp only [Prod.mk.injEq] at hq
        have : j = 256 := by
          by_cases hj2 : j < x
          · exact absurd ⟨by omega, by omega⟩ (h j hj2)
          · omega
        exact if_pos this
    simp only [spec_l3Find.l0]
    rw [if_neg (by omega), ht]
  | succ d ih =>
    intro k x hx hd hk h
    obtain ⟨k, rfl⟩ := LibHf.ix (show 0 < k by omega)
    have hla := lens_at (i := (x : Int)) (by omega) (by omega)
    rw [Int.toNat_natCast] at hla
    simp only [spec_l3Find.l0]
    rw [hla.1, hla.2, if_pos (by omega), if_pos (by omega), if_pos (by omega), w64 (by omega) (by omega)]
    by_cases h1 : (cs x : Int) = (n : Int)
    · rw [if_pos h1, if_pos (by omega)]
      by_cases h2 : (cb x : Int) = (acc : Int)
      · have hk2 := look_code (j := x) (by omega)
        rw [h1, h2, ho] at hk2
        have ht : tgt o = (x : Int) := by
          rw [hk2]
          exact if_neg (by omega)
        rw [if_pos h2, ht]
      · rw [if_neg h2]
        exact ih k (x + 1) (by omega) (by omega) (by omega) (fun i hi hq => by
          by_cases hix : i = x
          · subst hix; exact h2 (by omega)
          · exact h i (by omega) hq)
    · rw [if_neg h1]
      exact ih k (x + 1) (by omega) (by omega) (by omega) (fun i hi hq => by
          by_cases hix : i = x
          · subst hix; exact h1 (by omega)
          · exact h i (by omega) hq)
theorem find (acc n k : Nat) (o : Option Nat) (ho : lookC ((acc : Int), (n : Int)) = o) (hk : 257 ≤ k) : spec_l3Find.f k lensI bitsI (n : Int) (acc : Int) = some (tgt o) := by
  unfold spec_l3Find.f
  exact find_l acc n o ho 256 k 0 (by omega) (by omega) (by omega) (fun i hi => by omega)
theorem su_high {b : Nat} {ds : List Int} {acc n : Nat} {out : List Int} (h : n + 1 > 30) : su ((b : Int) :: ds) acc n out = (⟨#[]⟩, false) := by
  rw [su, if_pos h]
theorem su_none {b : Nat} {ds : List Int} {acc n : Nat} {out : List Int} (h : ¬ n + 1 > 30) (ho : lookC (((2 * acc + b : Nat) : Int), ((n + 1 : Nat) : Int)) = none) : su ((b : Int) :: ds) acc n out = su ds (2 * acc + b) (n + 1) out := by
  rw [su, if_neg h, Int.toNat_natCast, ho]
theorem su_eos {b : Nat} {ds : List Int} {acc n : Nat} {out : List Int} {j : Nat} (h : ¬ n + 1 > 30) (ho : lookC (((2 * acc + b : Nat) : Int), ((n + 1 : Nat) : Int)) = some j) (hj : j = 256) : su ((b : Int) :: ds) acc n out = su ds (2 * acc + b) (n + 1) out := by
  rw [su, if_neg h, Int.toNat_natCast, ho]
  exact if_pos hj
theorem su_some {b : Nat} {ds : List Int} {acc n : Nat} {out : List Int} {j : Nat} (h : ¬ n + 1 > 30) (ho : lookC (((2 * acc + b : Nat) : Int), ((n + 1 : Nat) : Int)) = some j) (hj : ¬ j = 256) : su ((b : Int) :: ds) acc n out = su ds 0 0 (out ++ [(j : Int)]) := by
  rw [su, if_neg h, Int.toNat_natCast, ho]
  exact if_neg hj
theorem byteBits_drop (x : Int) (n : Nat) : ∀ i, i < n → (byteBits x n).drop i = bit x ((n - 1 - i : Nat) : Int) :: (byteBits x n).drop (i + 1) := by
  induction n with
  | zero => intro i h; omega
  | succ n ih =>
    intro i h
    cases i with
    | zero => simp [byteBits]
    | succ i =>
      simp only [byteBits, List.drop_succ_cons]
      rw [ih i (by omega)]
      congr 3
      omega
theorem bits_drop : ∀ (l : List Int) (i : Nat), i < 8 * l.length → (listBits l).drop i = bit (rd l ((i / 8 : Nat) : Int)) ((7 - i % 8 : Nat) : Int) :: (listBits l).drop (i + 1)
  | [], i, h => by simp at h
  | x :: l, i, h => by
    have hb := byteBits_len x 8
    simp only [listBits]
    by_cases h8 : i < 8
    · have e1 : i / 8 = 0 := by omega
      have e2 : i % 8 = i := by omega
      rw [List.drop_append_of_le_length (by omega), List.drop_append_of_le_length (by omega), byteBits_drop x 8 i h8, e1, e2]
      first | done | simp [rd]
    · obtain ⟨j, rfl⟩ : ∃ j, i = 8 + j := ⟨i - 8, by omega⟩
      have e1 : (8 + j) / 8 = j / 8 + 1 := by omega
      have e2 : (8 + j) % 8 = j % 8 := by omega
      have e3 : ∀ m, (byteBits x 8 ++ listBits l).drop (8 + m) = (listBits l).drop m := fun m => by
        have h8 : (byteBits x 8 ++ listBits l).drop (byteBits x 8).length = listBits l := by simp
        rw [hb] at h8
        rw [← List.drop_drop, h8]
      have e4 : rd (x :: l) ((j / 8 + 1 : Nat) : Int) = rd l ((j / 8 : Nat) : Int) := by
        show (x :: l).getD ((j / 8 + 1 : Nat) : Int).toNat 0 = l.getD ((j / 8 : Nat) : Int).toNat 0
        rw [Int.toNat_natCast, Int.toNat_natCast]
        rfl
      rw [e3, show 8 + j + 1 = 8 + (j + 1) by omega, e3, bits_drop l j (by simp at h; omega), e1, e2, e4]
theorem spec_l (l : List Int) (hl : l.length ≤ 100000000) (hb : Bytes l) (d : Nat) : ∀ (k i acc n : Nat) (out : List Int), i ≤ 8 * l.length → 8 * l.length - i = d → d + 300 < k → acc < 2 ^ n → n ≤ 30 → out.length ≤ i →
    spec_UnHuff.l0 k l lensI bitsI out (acc : Int) (n : Int) (i : Int) = some (su ((listBits l).drop i) acc n out) := by
  have hbl := listBits_len l
  have hbb := listBits_bit l hb
  induction d with
  | zero =>
    intro k i acc n out hi hd hk ha hn ho
    obtain ⟨k, rfl⟩ := LibHf.ix (show 0 < k by omega)
    simp only [spec_UnHuff.l0]
    rw [w64 (x := 8 * (l.length : Int)) (by omega) (by omega), if_neg (by omega), List.drop_of_length_le (by omega), su]
    by_cases h7 : n > 7
    · rw [if_pos (by omega), if_pos h7]
    · have hp : (2 : Nat) ^ n ≤ 2 ^ 7 := Nat.pow_le_pow_right (by omega) (by omega)
      have hpos : 0 < 2 ^ n := Nat.pow_pos (by omega)
      have h1 := shl_nat 1 n (by omega) (by omega)
      rw [show ((1 : Nat) : Int) = 1 from rfl, Nat.one_mul] at h1
      rw [if_neg (by omega), if_neg h7, u64w (by omega) (by omega), if_pos (by omega), h1, w64 (by omega) (by omega)]
      by_cases he : acc = 2 ^ n - 1
      · rw [if_pos he, if_pos (by omega)]
      · rw [if_neg he, if_neg (by omega)]
  | succ d ih =>
    intro k i acc n out hi hd hk ha hn ho
    obtain ⟨k, rfl⟩ := LibHf.ix (show 0 < k by omega)
    have hdr := bits_drop l i (by omega)
    have hbit : bit (rd l ((i / 8 : Nat) : Int)) ((7 - i % 8 : Nat) : Int) = 0 ∨ bit (rd l ((i / 8 : Nat) : Int)) ((7 - i % 8 : Nat) : Int) = 1 := by
      refine hbb _ ?_
      have : bit (rd l ((i / 8 : Nat) : Int)) ((7 - i % 8 : Nat) : Int) ∈ (listBits l).drop i := by rw [hdr]; exact List.mem_cons_self ..
      exact List.mem_of_mem_drop this
    obtain ⟨b, hbt⟩ : ∃ b : Nat, bit (rd l ((i / 8 : Nat) : Int)) ((7 - i % 8 : Nat) : Int) = (b : Int) := ⟨_, (Int.toNat_of_nonneg (by rcases hbit with h | h <;> omega)).symm⟩
    have hb2 : b < 2 := by rcases hbit with h | h <;> omega
    obtain ⟨e1, e2⟩ := or_bit acc n b hb2 ha hn
    have e3 : wrap64 ((n : Int) + 1) = ((n + 1 : Nat) : Int) := by rw [w64 (by omega) (by omega)]; omega
    have t1 : wrap64 (Int.tdiv (i : Int) 8) = ((i / 8 : Nat) : Int) := by
      rw [Int.tdiv_eq_ediv_of_nonneg (by omega), w64 (by omega) (by omega)]
      omega
    have t2 : IntKind.u64.wrap (wrap64 (7 - Int.tmod (i : Int) 8)) = ((7 - i % 8 : Nat) : Int) := by
      rw [Int.tmod_eq_emod_of_nonneg (by omega), w64 (by omega) (by omega), u64w (by omega) (by omega)]
      omega
    have t3 : Go.bits .and .i64 (shr .i64 (wrap64 (rd l ((i / 8 : Nat) : Int))) ((7 - i % 8 : Nat) : Int)) 1 = (b : Int) := hbt
    simp only [spec_UnHuff.l0]
    rw [w64 (x := 8 * (l.length : Int)) (by omega) (by omega), if_pos (by omega), t1, t2, t3, e1, e3, if_pos (by omega), if_pos (by omega), if_pos (by omega), w64 (x := (i : Int) + 1) (by omega) (by omega), hdr, hbt]
    have ei : (i : Int) + 1 = ((i + 1 : Nat) : Int) := rfl
    rw [ei]
    have hk257 : 257 ≤ k := by omega
    have hi1 : i + 1 ≤ 8 * l.length := by omega
    have hd1 : 8 * l.length - (i + 1) = d := by omega
    have hk1 : d + 300 < k := by omega
    have ho1 : out.length ≤ i + 1 := by omega
    have hcap : out.length < 140737488355328 := by omega
    clear hdr hbit hbt t1 t2 t3
    by_cases h30 : n + 1 > 30
    · have c30 : ((n + 1 : Nat) : Int) > 30 := Int.ofNat_lt.2 h30
      rw [su_high h30]
      exact if_pos c30
    · have c30 : ¬ ((n + 1 : Nat) : Int) > 30 := fun h => h30 (Int.ofNat_lt.1 h)
      rw [if_neg c30]
      cases hlk : lookC (((2 * acc + b : Nat) : Int), ((n + 1 : Nat) : Int)) with
      | none =>
        rw [su_none h30 hlk]
        refine bs (find (2 * acc + b) (n + 1) k none hlk hk257) ?_
        have hn1 : ¬ tgt none ≥ 0 := by decide
        rw [if_neg hn1]
        exact ih k (i + 1) (2 * acc + b) (n + 1) out hi1 hd1 hk1 e2 (Nat.le_of_not_lt h30) ho1
      | some j =>
        obtain ⟨hj, _⟩ := look_some hlk
        by_cases h256 : j = 256
        · rw [su_eos h30 hlk h256]
          refine bs (find (2 * acc + b) (n + 1) k (some j) hlk hk257) ?_
          have hn1 : ¬ tgt (some j) ≥ 0 := by rw [h256]; decide
          rw [if_neg hn1]
          exact ih k (i + 1) (2 * acc + b) (n + 1) out hi1 hd1 hk1 e2 (Nat.le_of_not_lt h30) ho1
        · rw [su_some h30 hlk h256]
          refine bs (find (2 * acc + b) (n + 1) k (some j) hlk hk257) ?_
          have ht : tgt (some j) = (j : Int) := if_neg h256
          have hj0 : (j : Int) ≥ 0 := Int.natCast_nonneg _
          have hj1 : ((j : Int)) % 256 = (j : Int) := Int.emod_eq_of_lt hj0 (by have := hj; omega)
          have ho2 : (out ++ [(j : Int)]).length ≤ i + 1 := by rw [List.length_append]; exact Nat.succ_le_succ ho
          rw [ht, if_pos hj0, if_pos hcap, hj1]
          exact ih k (i + 1) 0 0 (out ++ [(j : Int)]) hi1 hd1 hk1 (Nat.pow_pos (by decide)) (Nat.zero_le _) ho2
theorem spec_un (l : List Int) (hl : l.length ≤ 100000000) (hb : Bytes l) : ∀ k, 8 * l.length + 9000 ≤ k → spec_UnHuff.f k l = some (su (listBits l) 0 0 []) := by
  intro k hk
  unfold spec_UnHuff.f
  refine bs LibHc.lens ?_
  refine bs (LibHc.codes k (by omega)) ?_
  exact spec_l l hl hb (8 * l.length) k 0 0 0 [] (by omega) (by omega) (by omega) (by omega) (by omega) (by simp)
/-! The program's -/
theorem syms_str (js : List Nat) (h : ∀ j ∈ js, j < 256) : syms (strOfNums (toI js)) = js := by
  unfold syms
  rw [strOfNums_data]
  unfold toI
  rw [List.map_map, List.map_map]
  conv => rhs; rw [← List.map_id js]
  apply List.map_congr_left
  intro j hj
  have := h j hj
  simp
  omega
theorem bytesOf_inj : ∀ (a b : List Int), Bytes a → Bytes b → Lib.bytesOf a = Lib.bytesOf b → a = b
  | [], [], _, _, _ => rfl
  | [], _ :: _, _, _, h => by simp [Lib.bytesOf] at h
  | _ :: _, [], _, _, h => by simp [Lib.bytesOf] at h
  | x :: a, y :: b, ha, hb, h => by
    have hx := ha x (List.mem_cons_self ..)
    have hy := hb y (List.mem_cons_self ..)
    simp only [Lib.bytesOf, List.map_cons, List.cons.injEq] at h
    have e := bytesOf_inj a b (fun z hz => ha z (List.mem_cons_of_mem _ hz)) (fun z hz => hb z (List.mem_cons_of_mem _ hz)) h.2
    have e2 : x = y := by
      have h1 := congrArg UInt8.toNat h.1
      simp at h1
      omega
    rw [e, e2]
theorem cbs_len (js : List Nat) (h : ∀ j ∈ js, j < 256) : 5 * js.length ≤ (cbs js).length := by
  induction js with
  | nil => simp [cbs]
  | cons j js ih =>
    have hj := bnds (i := j) (by have := h j (List.mem_cons_self ..); omega)
    rw [cbs_cons, List.length_append, nb_len, List.length_cons]
    have := ih (fun x hx => h x (List.mem_cons_of_mem _ hx))
    omega
theorem both (l : List Int) (hl : l.length ≤ 100000000) (hb : Bytes l) : ∃ (K : Nat) (r : ByteArray × Bool) (js : List Nat) (rest : List Int), (∀ j ∈ js, j < 256) ∧ listBits l = cbs js ++ rest ∧ (r = (strOfNums (toI js), true) ∨ r = (⟨#[]⟩, false)) ∧ (r.2 = true → r.1 = strOfNums (toI js) ∧ rest = List.replicate rest.length 1 ∧ rest.length ≤ 7) ∧ (r.2 = true → ∀ k, K ≤ k → hf0 k r.1 lensI bitsI [] 0 0 0 = some l) ∧
    (∀ k, K ≤ k → spec_UnHuff.f k l = some r) ∧ (∀ k, K ≤ k → unF k l = some r) := by
  obtain ⟨js, rest, g1, g2, g3, g4⟩ := dec (listBits l) 0 0 [] (listBits_bit l hb) (by omega) (by omega)
  rw [List.nil_append] at g2
  simp only [nb, List.nil_append] at g3 g4
  have h0 : ((0 : Nat) : Int) = 0 := rfl
  rw [h0] at g2
  have hjl := cbs_len js g1
  have hll := listBits_len l
  have hlen := congrArg List.length g3
  rw [List.length_append, hll] at hlen
  obtain ⟨K, r, p, f1, f2, f3, f4, f5⟩ := huff_bits (strOfNums (toI js)) (by rw [strOfNums_size]; simp [toI]; omega) [] (by intro x hx; cases hx) (by simp)
  rw [syms_str js g1] at f3
  simp only [listBits, List.nil_append] at f3
  have hsp := spec_un l hl hb
  have hun : ∀ k, K ≤ k → unF k l = some (if (Lib.bytesOf r == Lib.bytesOf l) = true then (strOfNums (toI js), true) else (⟨#[]⟩, false)) := by
    intro k hk
    unfold unF
    rw [if_pos (by omega), g2]
    exact bs (f5 k hk) rfl
  rcases g4 with ⟨h1, h2, h3⟩ | ⟨h1, h2⟩
  · refine ⟨K + 8 * l.length + 9000, (strOfNums (toI js), true), js, rest, g1, g3, .inl rfl, fun _ => ⟨rfl, h1, h2⟩, fun _ k hk => ?_, fun k hk => ?_, fun k hk => ?_⟩
    · have hrl := listBits_len r
      have hrlen := congrArg List.length f3
      rw [List.length_append, List.length_replicate, hrl] at hrlen
      have hp : p = rest.length := by omega
      have : r = l := listBits_inj r l f2 hb (by rw [f3, hp, ← h1, ← g3])
      rw [← this]
      exact f5 k (by omega)
    · rw [hsp k (by omega)]; exact congrArg some h3
    · have hrl := listBits_len r
      have hrlen := congrArg List.length f3
      rw [List.length_append, List.length_replicate, hrl] at hrlen
      have hp : p = rest.length := by omega
      have : r = l := listBits_inj r l f2 hb (by rw [f3, hp, ← h1, ← g3])
      rw [hun k (by omega), this, if_pos (by simp)]
  · refine ⟨K + 8 * l.length + 9000, (⟨#[]⟩, false), js, rest, g1, g3, .inr rfl, (fun h => by cases h), (fun h => by cases h), fun k hk => ?_, fun k hk => ?_⟩
    · rw [hsp k (by omega), h2]
    · rw [hun k (by omega), if_neg]
      intro he
      have hrl : r = l := bytesOf_inj r l f2 hb (by simpa using he)
      rw [hrl, g3] at f3
      have e := List.append_cancel_left f3
      exact h1 ⟨by rw [e]; simp, by rw [e, List.length_replicate]; omega⟩
/-- The way back. -/
theorem back (s : ByteArray) (hs : s.size ≤ 10000000) : ∃ (K : Nat) (r : List Int), Bytes r ∧ (r.length : Int) = hlen s ∧ (∀ k, K ≤ k → hf0 k s lensI bitsI [] 0 0 0 = some r) ∧ (∀ k, K ≤ k → unF k r = some (s, true)) := by
  obtain ⟨K, r, p, f1, f2, f3, f4, f5⟩ := huff_bits s (by omega) [] (by intro x hx; cases hx) (by simp)
  simp only [listBits, List.nil_append] at f3
  have hu : uh (listBits r) 0 0 [] = toI (syms s) := by rw [f3]; exact uh_huff (syms s) (syms_lt s) p f1
  have hst : strOfNums (toI (syms s)) = s := by
    apply bytes_ext
    rw [strOfNums_data]
    unfold toI syms
    rw [List.map_map, List.map_map]
    conv => rhs; rw [← List.map_id s.data.toList]
    apply List.map_congr_left
    intro b _
    simp
  have hrl := listBits_len r
  have hrlen := congrArg List.length f3
  rw [List.length_append, List.length_replicate, hrl] at hrlen
  have hh := hlen_bits s (by omega)
  refine ⟨K, r, f2, by rw [hh]; omega, f5, fun k hk => ?_⟩
  unfold unF
  have hsl := f4
  simp at hsl
  rw [if_pos (by omega), hu, hst]
  refine bs (f5 k hk) ?_
  rw [if_pos (by simp)]
end Go.Proofs.YthflimnpiglgbaaDoor.LibUx
namespace Go.Proofs.YthflimnpiglgbaaDoor.LibSh
open Go Go.RowKit Go.Proofs.YthflimnpiglgbaaDoor.A Go.Proofs.YthflimnpiglgbaaDoorW.PrintWords Go.Proofs.YthflimnpiglgbaaDoorW.PrintLast Go.Proofs.YthflimnpiglgbaaDoorW.PrintMore Go.Proofs.YthflimnpiglgbaaDoor.LibHuff Go.Proofs.YthflimnpiglgbaaDoor.LibHuffB
theorem same (k : Nat) : (∀ s a b l x y z, spec_Huff.l0 k s a b l x y z = hf0 k s a b l x y z) ∧ (∀ s a b l x y z, spec_Huff.l1 k s a b l x y z = hf1 k s a b l x y z) := by
  induction k with
  | zero => exact ⟨fun _ _ _ _ _ _ _ => rfl, fun _ _ _ _ _ _ _ => rfl⟩
  | succ k ih =>
    refine ⟨fun s a b l x y z => ?_, fun s a b l x y z => ?_⟩
    · simp only [spec_Huff.l0, hf0, ih.2]
    · simp only [spec_Huff.l1, hf1, ih.1, ih.2]
theorem spec_huff (s : ByteArray) (hs : s.size ≤ 10000000) : ∃ (K : Nat) (r : List Int), LibHb.Bytes r ∧ (r.length : Int) = hlen s ∧ r.length ≤ 5 * s.size + 1 ∧ (∀ k, K ≤ k → spec_Huff.f k s = some r) ∧ (∀ k, K ≤ k → impl_Huff.f k s = some r) ∧ (∀ k, K ≤ k → LibWrap2.unF k r = some (s, true)) := by
  obtain ⟨K, r, h1, h2, h3, h4⟩ := LibUx.back s hs
  obtain ⟨K2, r2, p, f1, f2, f3, f4, f5⟩ := LibHf.huff_bits s (by omega) [] (by intro x hx; cases hx) (by simp)
  have e : r = r2 := by
    have a := h3 (K + K2) (by omega)
    have b := f5 (K + K2) (by omega)
    rw [a] at b
    exact Option.some.inj b
  refine ⟨K + 9000, r, h1, h2, by rw [e]; simpa using f4, fun k hk => ?_, fun k hk => h3 k (by omega), fun k hk => h4 k (by omega)⟩
  unfold spec_Huff.f
  refine LibUh.bs LibHc.lens ?_
  refine LibUh.bs (LibHc.codes k (by omega)) ?_
  rw [(same k).1]
  exact h3 k (by omega)
end Go.Proofs.YthflimnpiglgbaaDoor.LibSh
namespace Go.Proofs.YthflimnpiglgbaaDoor.LibD
open Go.RowKit Go.Proofs.YthflimnpiglgbaaDoor.A Go.Proofs.YthflimnpiglgbaaDoorW.PrintWords Go.Proofs.YthflimnpiglgbaaDoorW.PrintLast Go.Proofs.YthflimnpiglgbaaDoorW.PrintMore Go.Proofs.YthflimnpiglgbaaDoor.LibU Go.Proofs.YthflimnpiglgbaaDoor.LibBits
/-- A cursor's place. -/
def CI (b : List Int) (i : Int) : Prop := 0 ≤ i ∧ i ≤ b.length ∧ b.length ≤ 140737488351232
theorem and255 (y : Int) : 0 ≤ Go.bits .and .i64 y 255 ∧ Go.bits .and .i64 y 255 ≤ 255 := by
  have e : ((BitVec.ofInt IntKind.i64.bits y &&& BitVec.ofInt IntKind.i64.bits 255).toNat : Nat) ≤ 255 := by
    rw [BitVec.toNat_and]
    have h : (BitVec.ofInt IntKind.i64.bits 255).toNat = 255 := by decide
    rw [h]
    exact Nat.and_le_right
  have h2 : Go.bits .and .i64 y 255 = (((BitVec.ofInt IntKind.i64.bits y &&& BitVec.ofInt IntKind.i64.bits 255).toNat : Nat) : Int) := by
    have e2 : ((BitVec.ofInt IntKind.i64.bits y &&& BitVec.ofInt IntKind.i64.bits 255).toNat : Int) < 2 ^ 63 := by
      have e63 : (2 : Int) ^ 63 = 9223372036854775808 := by decide
      rw [e63]
      omega
    exact wraps_i64 _ (Int.natCast_nonneg _) e2
  rw [h2]
  omega
theorem l1Byte (b : List Int) (i h : Int) (hi : CI b i) : ∃ x i' h', spec_l1Byte.f b i h = some (x, i', h') ∧ 0 ≤ x ∧ x ≤ 255 ∧ CI b i' := by
  unfold CI at *
  unfold spec_l1Byte.f
  by_cases h1 : i < (b.length : Int)
  · rw [if_pos h1, if_pos hi.1]
    refine ⟨_, _, _, rfl, (and255 _).1, (and255 _).2, ?_⟩
    rw [w64 (by omega) (by omega)]
    omega
  · rw [if_neg h1]
    exact ⟨_, _, _, rfl, (and255 _).1, (and255 _).2, hi⟩
theorem l1Below (b : List Int) (i h n : Int) (hn : n ≤ 1000000) (hi : CI b i) : ∃ x i' h', spec_l1Below.f b i h n = some (x, i', h') ∧ 0 ≤ x ∧ (0 < n → x < n) ∧ (n ≤ 0 → x = 0) ∧ CI b i' := by
  unfold spec_l1Below.f
  by_cases h0 : n ≤ 0
  · rw [if_pos h0]
    exact ⟨_, _, _, rfl, by omega, by omega, fun _ => rfl, hi⟩
  · rw [if_neg h0]
    by_cases h1 : n ≤ 256
    · rw [if_pos h1]
      obtain ⟨x, i', h', e, hx0, hx1, hi'⟩ := l1Byte b i h hi
      rw [e]
      simp only [Option.bind_some]
      rw [if_neg (by omega)]
      refine ⟨_, _, _, rfl, ?_, ?_, by omega, hi'⟩
      · rw [Int.tmod_eq_emod_of_nonneg hx0]; exact Int.emod_nonneg _ (by omega)
      · intro _; rw [Int.tmod_eq_emod_of_nonneg hx0]; exact Int.emod_lt_of_pos _ (by omega)
    · rw [if_neg h1]
      obtain ⟨x, i1, q1, e1, hx0, hx1, hi1⟩ := l1Byte b i h hi
      rw [e1]
      simp only [Option.bind_some]
      obtain ⟨y, i2, q2, e2, hy0, hy1, hi2⟩ := l1Byte b i1 q1 hi1
      rw [e2]
      simp only [Option.bind_some]
      obtain ⟨z, i3, q3, e3, hz0, hz1, hi3⟩ := l1Byte b i2 q2 hi2
      rw [e3]
      simp only [Option.bind_some]
      rw [if_neg (by omega), w64 (x := x * 65536) (by omega) (by omega), w64 (x := y * 256) (by omega) (by omega), w64 (x := x * 65536 + y * 256) (by omega) (by omega), w64 (by omega) (by omega)]
      refine ⟨_, _, _, rfl, ?_, ?_, by omega, hi3⟩
      · rw [Int.tmod_eq_emod_of_nonneg (by omega)]; exact Int.emod_nonneg _ (by omega)
      · intro _; rw [Int.tmod_eq_emod_of_nonneg (by omega)]; exact Int.emod_lt_of_pos _ (by omega)
theorem l1New (b : List Int) (hl : b.length ≤ 140737488351232) : ∃ K q, (∀ k, K ≤ k → spec_l1New.f k b = some (b, 0, q)) ∧ CI b 0 := by
  have key : ∀ (d : Nat) (i : Nat) (x : Int), i ≤ b.length → b.length - i = d → ∃ q, ∀ k, d < k → spec_l1New.l0 k b x (i : Int) = some (b, 0, q) := by
    intro d
    induction d with
    | zero =>
      intro i x hi hd
      refine ⟨x, fun k hk => ?_⟩
      obtain ⟨k, rfl⟩ := ix (show 0 < k by omega)
      simp only [spec_l1New.l0]
      rw [if_neg (by omega)]
    | succ d ih =>
      intro i x hi hd
      by_cases h : (i : Int) < 4000
      · obtain ⟨q, hq⟩ := ih (i + 1) (Go.bits .and .i64 (wrap64 ((wrap64 ((wrap64 (x * 137)) + (wrap64 (rd b i)))) + 11)) 1073741823) (by omega) (by omega)
        refine ⟨q, fun k hk => ?_⟩
        obtain ⟨k, rfl⟩ := ix (show 0 < k by omega)
        simp only [spec_l1New.l0]
        rw [if_pos (by omega), if_pos h, if_pos (by omega), w64 (x := (i : Int) + 1) (by omega) (by omega)]
        exact hq k (by omega)
      · refine ⟨x, fun k hk => ?_⟩
        obtain ⟨k, rfl⟩ := ix (show 0 < k by omega)
        simp only [spec_l1New.l0]
        rw [if_pos (by omega), if_neg h]
  obtain ⟨q, hq⟩ := key b.length 0 (wrap64 (369369 + (b.length : Int))) (by omega) (by omega)
  exact ⟨b.length + 1, q, fun k hk => hq k (by omega), by unfold CI; omega⟩
end Go.Proofs.YthflimnpiglgbaaDoor.LibD
namespace Go.Proofs.YthflimnpiglgbaaDoor.LibD
open Go.RowKit Go.Proofs.YthflimnpiglgbaaDoor.A Go.Proofs.YthflimnpiglgbaaDoorW.PrintWords Go.Proofs.YthflimnpiglgbaaDoorW.PrintLast Go.Proofs.YthflimnpiglgbaaDoorW.PrintMore Go.Proofs.YthflimnpiglgbaaDoor.LibU Go.Proofs.YthflimnpiglgbaaDoor.LibBits
theorem l1Int (b : List Int) (i h : Int) (l : List Int) (hl : 0 < l.length ∧ l.length ≤ 1000) (hi : CI b i) : ∃ x i' h', spec_l1Int.f b i h l = some (x, i', h') ∧ x ∈ l ∧ CI b i' := by
  unfold spec_l1Int.f
  obtain ⟨x, i', h', e, hx0, hx1, _, hi'⟩ := l1Below b i h l.length (by omega) hi
  rw [e]
  simp only [Option.bind_some]
  have hx := hx1 (by omega)
  rw [if_pos hx0, if_pos hx]
  refine ⟨_, _, _, rfl, ?_, hi'⟩
  unfold rd
  rw [List.getD_eq_getElem?_getD, List.getElem?_eq_getElem (show x.toNat < l.length by omega)]
  exact List.getElem_mem _
def Bytes (l : List Int) : Prop := ∀ x ∈ l, 0 ≤ x ∧ x ≤ 255
theorem l1Bytes (b : List Int) (i h n : Int) (hn : n ≤ 1000000) (hi : CI b i) : ∃ K l i' h', (∀ k, K ≤ k → spec_l1Bytes.f k b i h n = some (l, i', h')) ∧ Bytes l ∧ (l.length : Int) = max n 0 ∧ CI b i' := by
  have key : ∀ (d : Nat) (j : Nat) (x : List Int) (i h : Int), CI b i → Bytes x → x.length = j → n.toNat - j = d → (j : Int) ≤ max n 0 → ∃ l i' h', (∀ k, d < k → spec_l1Bytes.l0 k n x (j : Int) b i h = some (l, i', h')) ∧ Bytes l ∧ (l.length : Int) = max n 0 ∧ CI b i' := by
    intro d
    induction d with
    | zero =>
      intro j x i h hi hx hj hd hjn
      refine ⟨x, i, h, fun k hk => ?_, hx, by omega, hi⟩
      obtain ⟨k, rfl⟩ := ix (show 0 < k by omega)
      simp only [spec_l1Bytes.l0]
      rw [if_neg (by omega)]
    | succ d ih =>
      intro j x i h hi hx hj hd hjn
      obtain ⟨y, i1, q1, e1, hy0, hy1, hi1⟩ := l1Byte b i h hi
      obtain ⟨l, i', h', e, hl, hln, hi'⟩ := ih (j + 1) (x ++ [y % 256]) i1 q1 hi1 (by
        intro z hz
        rcases List.mem_append.1 hz with hz | hz
        · exact hx z hz
        · rw [List.mem_singleton.1 hz]; omega) (by simp [hj]) (by omega) (by omega)
      refine ⟨l, i', h', fun k hk => ?_, hl, hln, hi'⟩
      obtain ⟨k, rfl⟩ := ix (show 0 < k by omega)
      simp only [spec_l1Bytes.l0]
      rw [if_pos (by omega), e1]
      simp only [Option.bind_some]
      rw [if_pos (by omega), w64 (x := (j : Int) + 1) (by omega) (by omega)]
      exact e k (by omega)
  obtain ⟨l, i', h', e, h1, h2, h3⟩ := key n.toNat 0 [] i h hi (by intro x hx; cases hx) rfl (by omega) (by omega)
  exact ⟨n.toNat + 1, l, i', h', fun k hk => e k (by omega), h1, h2, h3⟩
theorem l1Some (b : List Int) (i h : Int) (hi : CI b i) : ∃ K l i' h', (∀ k, K ≤ k → spec_l1Some.f k b i h = some (l, i', h')) ∧ Bytes l ∧ l.length ≤ 9 ∧ CI b i' := by
  obtain ⟨n, i1, q1, e1, hn, hi1⟩ := l1Int b i h [0, 1, 2, 5, 9] (by decide) hi
  have hn' : n = 0 ∨ n = 1 ∨ n = 2 ∨ n = 5 ∨ n = 9 := by simpa using hn
  obtain ⟨K, l, i2, q2, e2, hl, hlen, hi2⟩ := l1Bytes b i1 q1 n (by omega) hi1
  refine ⟨K, l, i2, q2, fun k hk => ?_, hl, by omega, hi2⟩
  unfold spec_l1Some.f
  exact bs e1 (bs (e2 k hk) rfl)
end Go.Proofs.YthflimnpiglgbaaDoor.LibD
namespace Go.Proofs.YthflimnpiglgbaaDoor.LibDs
open Go.RowKit Go.Proofs.YthflimnpiglgbaaDoor.A Go.Proofs.YthflimnpiglgbaaDoorW.PrintWords Go.Proofs.YthflimnpiglgbaaDoorW.PrintLast Go.Proofs.YthflimnpiglgbaaDoorW.PrintMore Go.Proofs.YthflimnpiglgbaaDoor.LibU Go.Proofs.YthflimnpiglgbaaDoor.LibD
theorem l1Str (b : List Int) (i h : Int) (l : List ByteArray) (hl : 0 < l.length ∧ l.length ≤ 1000) (hi : CI b i) : ∃ x i' h', spec_l1Str.f b i h l = some (x, i', h') ∧ x ∈ l ∧ CI b i' := by
  unfold spec_l1Str.f
  obtain ⟨x, i', h', e, hx0, hx1, _, hi'⟩ := l1Below b i h l.length (by omega) hi
  rw [e]
  simp only [Option.bind_some]
  have hx2 := hx1 (by omega)
  obtain ⟨n, rfl⟩ := Int.eq_ofNat_of_zero_le hx0
  have hn : n < l.length := by omega
  rw [if_pos hx0, if_pos (by omega)]
  refine ⟨_, _, _, rfl, ?_, hi'⟩
  have e : rdOf ByteArray.empty l (n : Int) = l[n] := by simp [rdOf, List.getD_eq_getElem?_getD, List.getElem?_eq_getElem hn]
  rw [e]
  exact List.getElem_mem hn
theorem some_l (b : List Int) (d : Nat) : ∀ (n : Nat) (s : ByteArray) (i h : Int), n = d → n ≤ 10 → s.size + 20 * d ≤ 1000 → CI b i → ∃ s' i' h', (∀ k, d < k → spec_l3Some.l0 k s (n : Int) b i h = some (s', i', h')) ∧ s'.size ≤ s.size + 20 * d ∧ CI b i' := by
  induction d with
  | zero =>
    intro n s i h hn hn2 hs hi
    refine ⟨s, i, h, fun k hk => ?_, by omega, hi⟩
    obtain ⟨k, rfl⟩ := ix (show 0 < k by omega)
    simp only [spec_l3Some.l0]
    rw [if_neg (by omega)]
  | succ d ih =>
    intro n s i h hn hn2 hs hi
    obtain ⟨x, i1, h1, e, hx, hi1⟩ := l1Str b i h (((⟨#[97]⟩ : ByteArray) :: (⟨#[71, 69, 84]⟩ : ByteArray) :: (⟨#[47, 120]⟩ : ByteArray) :: (⟨#[48]⟩ : ByteArray) :: (⟨#[119, 119, 119, 46, 101, 120, 97, 109, 112, 108, 101, 46, 99, 111, 109]⟩ : ByteArray) :: (⟨#[0]⟩ : ByteArray) :: (⟨#[126]⟩ : ByteArray) :: (⟨#[255]⟩ : ByteArray) :: (⟨#[123]⟩ : ByteArray) :: (⟨#[90]⟩ : ByteArray) :: (⟨#[32]⟩ : ByteArray) :: [] : List ByteArray)) (by simp) hi
    have hx2 : x.size ≤ 20 := by
      simp only [List.mem_cons, List.mem_nil_iff, or_false] at hx
      rcases hx with rfl | rfl | rfl | rfl | rfl | rfl | rfl | rfl | rfl | rfl | rfl <;> decide
    have hsx : (s ++ x).size = s.size + x.size := ByteArray.size_append
    obtain ⟨s', i', h', g1, g2, g3⟩ := ih d (s ++ x) i1 h1 rfl (by omega) (by omega) hi1
    refine ⟨s', i', h', fun k hk => ?_, by omega, g3⟩
    obtain ⟨k, rfl⟩ := ix (show 0 < k by omega)
    simp only [spec_l3Some.l0]
    rw [if_pos (by omega)]
    refine bs e ?_
    rw [if_pos (by show s.size + x.size ≤ 9223372036854775807; omega), w64 (by omega) (by omega), show (n : Int) - 1 = (d : Int) by omega]
    exact g1 k (by omega)
theorem l3Some (b : List Int) (i h : Int) (hi : CI b i) : ∃ s i' h', (∀ k, 10 ≤ k → spec_l3Some.f k b i h = some (s, i', h')) ∧ s.size ≤ 200 ∧ CI b i' := by
  obtain ⟨x, i1, h1, e, hx0, hx1, _, hi1⟩ := l1Below b i h 6 (by omega) hi
  obtain ⟨n, rfl⟩ := Int.eq_ofNat_of_zero_le hx0
  have hn := hx1 (by omega)
  have hz : (⟨#[]⟩ : ByteArray).size + 20 * n ≤ 1000 := by
    show 0 + 20 * n ≤ 1000
    omega
  obtain ⟨s', i', h', g1, g2, g3⟩ := some_l b n n ⟨#[]⟩ i1 h1 rfl (by omega) hz hi1
  refine ⟨s', i', h', fun k hk => ?_, ?_, g3⟩
  · unfold spec_l3Some.f
    refine bs e ?_
    exact g1 k (by omega)
  · have : (⟨#[]⟩ : ByteArray).size = 0 := rfl
    omega
theorem drawHuff (l : List Int) (hl : l.length ≤ 140737488351232) : ∃ K s, (∀ k, K ≤ k → spec_DrawHuff.f k l = some s) ∧ s.size ≤ 200 := by
  obtain ⟨K, q, h1, h2⟩ := l1New l hl
  obtain ⟨s, i', h', g1, g2, g3⟩ := l3Some l 0 q h2
  refine ⟨K + 10, s, fun k hk => ?_, g2⟩
  unfold spec_DrawHuff.f
  refine bs (h1 k (by omega)) ?_
  refine bs (g1 k (by omega)) ?_
  rfl
end Go.Proofs.YthflimnpiglgbaaDoor.LibDs
