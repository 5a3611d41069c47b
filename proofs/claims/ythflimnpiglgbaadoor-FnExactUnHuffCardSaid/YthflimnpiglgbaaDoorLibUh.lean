/- unHuff and the reference's UnHuff: what bits decode to. Condition: each theorem's own bounds. -/
import Derived.Test.YthflimnpiglgbaaDoorLibK2
import Derived.Test.YthflimnpiglgbaaDoorLibHc
import Derived.Test.YthflimnpiglgbaaDoorAx0
set_option linter.unusedVariables false
set_option linter.unusedSimpArgs false
namespace Go.Proofs.YthflimnpiglgbaaDoor.LibUh
open Go Go.RowKit Go.Proofs.YthflimnpiglgbaaDoor.A Go.Proofs.YthflimnpiglgbaaDoorW.PrintWords Go.Proofs.YthflimnpiglgbaaDoorW.PrintLast Go.Proofs.YthflimnpiglgbaaDoorW.PrintMore Go.Proofs.YthflimnpiglgbaaDoor.LibLens Go.Proofs.YthflimnpiglgbaaDoor.LibHuff Go.Proofs.YthflimnpiglgbaaDoor.LibHuffB Go.Proofs.YthflimnpiglgbaaDoor.LibMap Go.Proofs.YthflimnpiglgbaaDoor.LibUnH Go.Proofs.YthflimnpiglgbaaDoor.LibHp Go.Proofs.YthflimnpiglgbaaDoor.LibBits Go.Proofs.YthflimnpiglgbaaDoor.LibHb Go.Proofs.YthflimnpiglgbaaDoor.LibHf
theorem bs {α β : Type} {o : Option α} {a : α} {f : α → Option β} {r : Option β} (h : o = some a) (h' : f a = r) : o.bind f = r := by rw [h]; exact h'
/-- One bit more. -/
theorem or_bit (acc n d : Nat) (hd : d < 2) (ha : acc < 2 ^ n) (hn : n ≤ 30) : Go.bits .or .i64 (wrap64 ((acc : Int) * 2)) (d : Int) = ((2 * acc + d : Nat) : Int) ∧ 2 * acc + d < 2 ^ (n + 1) := by
  have hp : (2 : Nat) ^ n ≤ 2 ^ 30 := Nat.pow_le_pow_right (by omega) hn
  have e : wrap64 ((acc : Int) * 2) = ((acc * 2 ^ 1 : Nat) : Int) := by rw [w64 (by omega) (by omega)]; omega
  refine ⟨?_, by rw [Nat.pow_succ]; omega⟩
  rw [e, or_nat acc d 1 (by omega) (by omega) (by omega)]
  congr 1
  omega
/-- What the row's bits are, as bytes of a text. -/
def toI (js : List Nat) : List Int := js.map fun j => ((j : Nat) : Int)
/-- The reference's loop over bits. -/
def su : List Int → Nat → Nat → List Int → ByteArray × Bool
  | [], acc, n, out => if n > 7 then (⟨#[]⟩, false) else if acc = 2 ^ n - 1 then (strOfNums out, true) else (⟨#[]⟩, false)
  | d :: ds, acc, n, out =>
    if n + 1 > 30 then (⟨#[]⟩, false) else
    match lookC (((2 * acc + d.toNat : Nat) : Int), ((n + 1 : Nat) : Int)) with
    | some j => if j = 256 then su ds (2 * acc + d.toNat) (n + 1) out else su ds 0 0 (out ++ [(j : Int)])
    | none => su ds (2 * acc + d.toNat) (n + 1) out
theorem su_over (ds : List Int) (acc : Nat) (out : List Int) : su ds acc 30 out = (⟨#[]⟩, false) := by
  cases ds with
  | nil => simp only [su]; rw [if_pos (by omega)]
  | cons d ds => rw [su, if_pos (by omega)]
/-- Decoding: what is there, what its codes are, and what is left; and what the reference says of it. -/
theorem dec (ds : List Int) : ∀ (acc n : Nat) (out : List Int), (∀ d ∈ ds, d = 0 ∨ d = 1) → acc < 2 ^ n → n ≤ 30 →
    ∃ (js : List Nat) (rest : List Int), (∀ j ∈ js, j < 256) ∧ uh ds (acc : Int) (n : Int) out = out ++ toI js ∧ nb acc n ++ ds = cbs js ++ rest ∧
      ((rest = List.replicate rest.length 1 ∧ rest.length ≤ 7 ∧ su ds acc n out = (strOfNums (out ++ toI js), true)) ∨ (¬ (rest = List.replicate rest.length 1 ∧ rest.length ≤ 7) ∧ su ds acc n out = (⟨#[]⟩, false))) := by
  induction ds with
  | nil =>
    intro acc n out hd ha hn
    refine ⟨[], nb acc n, by simp, by simp [uh, toI], by simp [cbs], ?_⟩
    rw [nb_len]
    by_cases h7 : n > 7
    · right
      exact ⟨fun h => by omega, by simp [su, h7]⟩
    · by_cases he : acc = 2 ^ n - 1
      · left
        refine ⟨by rw [he, nb_ones], by omega, ?_⟩
        simp only [su]
        rw [if_neg h7, if_pos he]
        simp [toI]
      · right
        refine ⟨fun h => he ?_, ?_⟩
        · have hpos : 0 < 2 ^ n := Nat.pow_pos (by omega)
          exact nb_inj n acc (2 ^ n - 1) ha (by omega) (by rw [nb_ones]; exact h.1)
        · simp only [su]
          rw [if_neg h7, if_neg he]
  | cons d ds ih =>
    intro acc n out hd ha hn
    obtain ⟨b, hb⟩ : ∃ b : Nat, d = (b : Int) := ⟨d.toNat, by rcases hd d (List.mem_cons_self ..) with h | h <;> omega⟩
    have hb2 : b < 2 := by rcases hd d (List.mem_cons_self ..) with h | h <;> omega
    subst hb
    have hd' : ∀ d ∈ ds, d = 0 ∨ d = 1 := fun x hx => hd x (List.mem_cons_of_mem _ hx)
    obtain ⟨e1, e2⟩ := or_bit acc n b hb2 ha hn
    have e3 : wrap64 ((n : Int) + 1) = ((n + 1 : Nat) : Int) := by rw [w64 (by omega) (by omega)]; omega
    have eb : nb acc n ++ (b : Int) :: ds = nb (2 * acc + b) (n + 1) ++ ds := by rw [nb_snoc acc b n hb2, List.append_assoc]; rfl
    cases hlk : lookC (((2 * acc + b : Nat) : Int), ((n + 1 : Nat) : Int)) with
    | none =>
      rw [uh, e1, e3, hlk]
      simp only
      by_cases h30 : ((n + 1 : Nat) : Int) > 30
      · rw [if_pos h30]
        refine ⟨[], nb acc n ++ (b : Int) :: ds, by simp, by simp [toI], by simp [cbs], .inr ⟨fun h => ?_, ?_⟩⟩
        · have := h.2
          simp only [List.length_append, nb_len, List.length_cons] at this
          omega
        · have : n = 30 := by omega
          subst this
          exact su_over _ _ _
      · rw [if_neg h30]
        obtain ⟨js, rest, g1, g2, g3, g4⟩ := ih (2 * acc + b) (n + 1) out hd' e2 (by omega)
        refine ⟨js, rest, g1, g2, by rw [eb]; exact g3, ?_⟩
        have es : su ((b : Int) :: ds) acc n out = su ds (2 * acc + b) (n + 1) out := by
          rw [su, if_neg (by omega), Int.toNat_natCast, hlk]
        rw [es]
        exact g4
    | some j =>
      rw [uh, e1, e3, hlk]
      simp only
      obtain ⟨hj, hq⟩ := look_some hlk
      simp only [Prod.mk.injEq] at hq
      have hbd := bnds hj
      have hn1 : n + 1 = cs j := by omega
      have ha1 : 2 * acc + b = cb j := by omega
      by_cases h256 : j = 256
      · rw [if_pos h256]
        have h30 : n + 1 = 30 := by rw [hn1, h256, eos.2]
        refine ⟨[], nb acc n ++ (b : Int) :: ds, by simp, by simp [toI], by simp [cbs], .inr ⟨fun h => ?_, ?_⟩⟩
        · have := h.2
          simp only [List.length_append, nb_len, List.length_cons] at this
          omega
        · rw [su, if_neg (by omega), Int.toNat_natCast, hlk]
          simp only
          rw [if_pos h256, h30]
          exact su_over _ _ _
      · rw [if_neg h256, if_neg (by omega)]
        have ej : ((j : Int)) % 256 = (j : Int) := by omega
        rw [ej]
        obtain ⟨js, rest, g1, g2, g3, g4⟩ := ih 0 0 (out ++ [(j : Int)]) hd' (by omega) (by omega)
        refine ⟨j :: js, rest, ?_, ?_, ?_, ?_⟩
        · intro x hx
          rcases List.mem_cons.1 hx with rfl | hx
          · omega
          · exact g1 x hx
        · rw [show ((0 : Nat) : Int) = 0 from rfl] at g2
          rw [g2]
          simp [toI]
        · rw [eb, cbs_cons, ha1, hn1, List.append_assoc, ← g3]
          simp [nb]
        · have es : su ((b : Int) :: ds) acc n out = su ds 0 0 (out ++ [(j : Int)]) := by
            rw [su, if_neg (by omega), Int.toNat_natCast, hlk]
            simp only
            rw [if_neg h256]
          rw [es]
          have et : out ++ [(j : Int)] ++ toI js = out ++ toI (j :: js) := by simp [toI]
          rw [et] at g4
          exact g4
/-! The way back -/
theorem uh_some {d : Int} {ds : List Int} {acc n : Int} {out : List Int} {j : Nat} (h : lookC (Go.bits .or .i64 (wrap64 (acc * 2)) d, wrap64 (n + 1)) = some j) (hj : ¬ j = 256) (hn : ¬ wrap64 (n + 1) > 30) : uh (d :: ds) acc n out = uh ds 0 0 (out ++ [(j : Int) % 256]) := by
  rw [uh, h]
  exact (if_neg hj).trans (if_neg hn)
theorem uh_none {d : Int} {ds : List Int} {acc n : Int} {out : List Int} (h : lookC (Go.bits .or .i64 (wrap64 (acc * 2)) d, wrap64 (n + 1)) = none) (hn : ¬ wrap64 (n + 1) > 30) : uh (d :: ds) acc n out = uh ds (Go.bits .or .i64 (wrap64 (acc * 2)) d) (wrap64 (n + 1)) out := by
  rw [uh, h]
  exact if_neg hn
theorem uh_code {j : Nat} (hj : j < 256) (d : Nat) : ∀ (p : Nat) (ds out : List Int), p ≤ cs j → cs j - p = d → p < cs j →
    uh (nb (cb j) (cs j - p) ++ ds) ((cb j / 2 ^ (cs j - p) : Nat) : Int) (p : Int) out = uh ds 0 0 (out ++ [(j : Int)]) := by
  have hbd := bnds (i := j) (by omega)
  induction d with
  | zero => intro p ds out h1 h2 h3; omega
  | succ d ih =>
    intro p ds out h1 h2 h3
    have hc : cs j - p = (cs j - (p + 1)) + 1 := by omega
    have hlt : cb j / 2 ^ (cs j - p) < 2 ^ p := by
      refine Nat.div_lt_of_lt_mul ?_
      rw [← Nat.pow_add]
      have : cs j - p + p = cs j := by omega
      rw [this]
      exact hbd.2.2
    obtain ⟨e1, e2⟩ := or_bit (cb j / 2 ^ (cs j - p)) p (cb j / 2 ^ (cs j - (p + 1)) % 2) (Nat.mod_lt _ (by omega)) hlt (by omega)
    have e3 : wrap64 ((p : Int) + 1) = ((p + 1 : Nat) : Int) := by rw [w64 (by omega) (by omega)]; omega
    have e4 : 2 * (cb j / 2 ^ (cs j - p)) + cb j / 2 ^ (cs j - (p + 1)) % 2 = cb j / 2 ^ (cs j - (p + 1)) := by
      have : cb j / 2 ^ (cs j - p) = cb j / 2 ^ (cs j - (p + 1)) / 2 := by rw [hc, Nat.pow_succ, Nat.div_div_eq_div_mul]
      rw [this]
      omega
    rw [e4] at e1
    have en : nb (cb j) (cs j - p) = ((cb j / 2 ^ (cs j - (p + 1)) % 2 : Nat) : Int) :: nb (cb j) (cs j - (p + 1)) := by rw [hc]; rfl
    rw [en, List.cons_append]
    clear e4 e2 hlt hc en
    by_cases hlast : p + 1 = cs j
    · have hk := look_code (j := j) (by omega)
      have n1 : ¬ j = 256 := by omega
      have n2 : ¬ ((cs j : Nat) : Int) > 30 := by omega
      have ej : ((j : Int)) % 256 = (j : Int) := by omega
      have e5 : cb j / 2 ^ (cs j - (p + 1)) = cb j := by rw [hlast, Nat.sub_self, Nat.pow_zero, Nat.div_one]
      have hs := uh_some (d := ((cb j / 2 ^ (cs j - (p + 1)) % 2 : Nat) : Int)) (ds := nb (cb j) (cs j - (p + 1)) ++ ds) (acc := ((cb j / 2 ^ (cs j - p) : Nat) : Int)) (n := (p : Int)) (out := out) (j := j) (by rw [e1, e3, e5, hlast]; exact hk) n1 (by rw [e3, hlast]; exact n2)
      rw [hs]
      rw [ej, hlast, Nat.sub_self, show nb (cb j) 0 = [] from rfl, List.nil_append]
    · have hk := look_pre (j := j) (p := p + 1) (by omega) (by omega)
      have n2 : ¬ ((p + 1 : Nat) : Int) > 30 := by omega
      have hs := uh_none (d := ((cb j / 2 ^ (cs j - (p + 1)) % 2 : Nat) : Int)) (ds := nb (cb j) (cs j - (p + 1)) ++ ds) (acc := ((cb j / 2 ^ (cs j - p) : Nat) : Int)) (n := (p : Int)) (out := out) (by rw [e1, e3]; exact hk) (by rw [e3]; exact n2)
      rw [hs, e1, e3]
      exact ih (p + 1) ds out (by omega) (by omega) (by omega)
theorem uh_codes : ∀ (js : List Nat), (∀ j ∈ js, j < 256) → ∀ (ds out : List Int), uh (cbs js ++ ds) 0 0 out = uh ds 0 0 (out ++ toI js)
  | [], _, ds, out => by simp [cbs, toI]
  | j :: js, h, ds, out => by
    have hj := h j (List.mem_cons_self ..)
    have hbd := bnds (i := j) (by omega)
    have h1 := uh_code hj (cs j) 0 (cbs js ++ ds) out (by omega) (by omega) (by omega)
    have e0 : ((0 : Nat) : Int) = 0 := rfl
    rw [Nat.sub_zero, Nat.div_eq_of_lt hbd.2.2, e0] at h1
    rw [cbs_cons, List.append_assoc, h1]
    rw [uh_codes js (fun x hx => h x (List.mem_cons_of_mem _ hx))]
    simp [toI]
theorem uh_ones (k : Nat) : ∀ (n : Nat) (out : List Int), n + k ≤ 8 → uh (List.replicate k 1) ((2 ^ n - 1 : Nat) : Int) (n : Int) out = out := by
  induction k with
  | zero => intro n out h; rfl
  | succ k ih =>
    intro n out h
    have hpos : 0 < 2 ^ n := Nat.pow_pos (by omega)
    obtain ⟨e1, e2⟩ := or_bit (2 ^ n - 1) n 1 (by omega) (by omega) (by omega)
    have e3 : wrap64 ((n : Int) + 1) = ((n + 1 : Nat) : Int) := by rw [w64 (by omega) (by omega)]; omega
    have e4 : 2 * (2 ^ n - 1) + 1 = 2 ^ (n + 1) - 1 := by rw [Nat.pow_succ]; omega
    rw [e4] at e1
    have e5 : ((1 : Nat) : Int) = 1 := rfl
    rw [e5] at e1
    have n2 : ¬ ((n + 1 : Nat) : Int) > 30 := by omega
    have hk := look_ones (p := n + 1) (by omega)
    have hs := uh_none (d := 1) (ds := List.replicate k 1) (acc := ((2 ^ n - 1 : Nat) : Int)) (n := (n : Int)) (out := out) (by rw [e1, e3]; exact hk) (by rw [e3]; exact n2)
    rw [List.replicate_succ, hs, e1, e3]
    exact ih (n + 1) out (by omega)
theorem uh_huff (js : List Nat) (h : ∀ j ∈ js, j < 256) (p : Nat) (hp : p < 8) : uh (cbs js ++ List.replicate p 1) 0 0 [] = toI js := by
  rw [uh_codes js h]
  have h1 := uh_ones p 0 ([] ++ toI js) (by omega)
  have e0 : ((2 ^ 0 - 1 : Nat) : Int) = 0 := rfl
  rw [e0, List.nil_append] at h1
  rw [List.nil_append]
  exact h1
end Go.Proofs.YthflimnpiglgbaaDoor.LibUh
