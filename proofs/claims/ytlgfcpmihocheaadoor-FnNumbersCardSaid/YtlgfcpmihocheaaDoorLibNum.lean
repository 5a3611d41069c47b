/- A text's number: what the program's and the reference's Number come to. Condition: each theorem's own bounds. -/
import Derived.Test.YtlgfcpmihocheaaDoorLibTx
import Derived.Laws.Strings
import Derived.Test.YtlgfcpmihocheaaDoorAx3
import Derived.Test.YtlgfcpmihocheaaDoorAx6
import Derived.Test.YtlgfcpmihocheaaDoorAx7
set_option linter.unusedVariables false
set_option linter.unusedSimpArgs false
namespace Go.Proofs.YtlgfcpmihocheaaDoor.LibNum
open Go Go.RowKit Go.Proofs.YtlgfcpmihocheaaDoor.A Go.Proofs.YtlgfcpmihocheaaDoorW.PrintWords Go.Proofs.YtlgfcpmihocheaaDoorW.PrintLast Go.Proofs.YtlgfcpmihocheaaDoorW.PrintMore Go.Proofs.YtlgfcpmihocheaaDoor.LibU Go.Proofs.YtlgfcpmihocheaaDoor.LibTx
/-- A digit. -/
def dig (d : UInt8) : Prop := 48 ≤ d.toNat ∧ d.toNat ≤ 57
instance (d : UInt8) : Decidable (dig d) := by unfold dig; infer_instance
/-- The number that digits write, behind one that is there. -/
def scan (acc : Nat) : List UInt8 → Option Nat
  | [] => some acc
  | d :: l => if dig d then scan (acc * 10 + (d.toNat - 48)) l else none
def dval (acc : Nat) (l : List UInt8) : Nat := l.foldl (fun a d => a * 10 + (d.toNat - 48)) acc
theorem scan_all (l : List UInt8) : ∀ acc, (∀ d ∈ l, dig d) → scan acc l = some (dval acc l) := by
  induction l with
  | nil => intro acc _; rfl
  | cons d l ih =>
    intro acc h
    rw [scan, if_pos (h d (List.mem_cons_self ..)), ih _ (fun e he => h e (List.mem_cons_of_mem _ he))]
    rfl
theorem scan_some (l : List UInt8) : ∀ acc n, scan acc l = some n → (∀ d ∈ l, dig d) ∧ n = dval acc l := by
  induction l with
  | nil => intro acc n h; exact ⟨by simp, by simpa [scan, dval] using h.symm⟩
  | cons d l ih =>
    intro acc n h
    rw [scan] at h
    by_cases c : dig d
    · rw [if_pos c] at h
      obtain ⟨h1, h2⟩ := ih _ _ h
      refine ⟨?_, h2⟩
      intro e he
      rcases List.mem_cons.1 he with rfl | he
      · exact c
      · exact h1 e he
    · rw [if_neg c] at h; cases h
theorem dval_lt (l : List UInt8) : ∀ acc, (∀ d ∈ l, dig d) → dval acc l < (acc + 1) * 10 ^ l.length := by
  induction l with
  | nil => intro acc _; simp [dval]
  | cons d l ih =>
    intro acc h
    have hd := h d (List.mem_cons_self ..)
    have := ih (acc * 10 + (d.toNat - 48)) (fun e he => h e (List.mem_cons_of_mem _ he))
    have e : dval acc (d :: l) = dval (acc * 10 + (d.toNat - 48)) l := rfl
    rw [e, List.length_cons, Nat.pow_succ]
    refine Nat.lt_of_lt_of_le this ?_
    have h2 : acc * 10 + (d.toNat - 48) + 1 ≤ (acc + 1) * 10 := by have := hd.2; omega
    calc (acc * 10 + (d.toNat - 48) + 1) * 10 ^ l.length ≤ ((acc + 1) * 10) * 10 ^ l.length := Nat.mul_le_mul_right _ h2
      _ = (acc + 1) * (10 ^ l.length * 10) := by rw [Nat.mul_assoc, Nat.mul_comm 10]
theorem dval_ge (l : List UInt8) : ∀ acc, acc ≤ dval acc l := by
  induction l with
  | nil => intro acc; exact Nat.le_refl _
  | cons d l ih =>
    intro acc
    have := ih (acc * 10 + (d.toNat - 48))
    have e : dval acc (d :: l) = dval (acc * 10 + (d.toNat - 48)) l := rfl
    omega
theorem dval_snoc (l : List UInt8) (d : UInt8) (acc : Nat) : dval acc (l ++ [d]) = dval acc l * 10 + (d.toNat - 48) := by
  simp [dval]
theorem snoc_ind {α : Type} {P : List α → Prop} (h0 : P []) (h1 : ∀ l a, P l → P (l ++ [a])) (l : List α) : P l := by
  have key : ∀ n (l : List α), l.length = n → P l := by
    intro n
    induction n with
    | zero => intro l h; rw [List.length_eq_zero_iff.1 h]; exact h0
    | succ n ih =>
      intro l h
      have hne : l ≠ [] := by intro e; rw [e] at h; simp at h
      rw [← List.dropLast_concat_getLast hne]
      exact h1 _ _ (ih _ (by rw [List.length_dropLast]; omega))
  exact key _ l rfl
/-- Digits without a zero ahead are what the number is written as. -/
theorem digits_back (l : List UInt8) : (∀ d ∈ l, dig d) → l ≠ [] → (l.length = 1 ∨ ∀ d, l.head? = some d → d.toNat ≠ 48) → Lib.decDigits (dval 0 l) = l := by
  refine snoc_ind (P := fun l => (∀ d ∈ l, dig d) → l ≠ [] → (l.length = 1 ∨ ∀ d, l.head? = some d → d.toNat ≠ 48) → Lib.decDigits (dval 0 l) = l) ?_ ?_ l
  · intro _ h; exact absurd rfl h
  · intro l d ih h _ hz
    have hd : dig d := h d (by simp)
    have hl : ∀ e ∈ l, dig e := fun e he => h e (by simp [he])
    rw [dval_snoc]
    have hb : UInt8.ofNat (48 + (d.toNat - 48)) = d := by
      rw [show 48 + (d.toNat - 48) = d.toNat by have := hd.1; omega]
      exact UInt8.ofNat_toNat
    cases l with
    | nil =>
      have e : dval 0 [] = 0 := rfl
      rw [e, Lib.decDigits_one (by have := hd.2; omega)]
      rw [show 48 + (0 * 10 + (d.toNat - 48)) = 48 + (d.toNat - 48) by omega, hb]
      rfl
    | cons x l =>
      have hx : x.toNat ≠ 48 := by
        rcases hz with hz | hz
        · simp at hz
        · exact hz x (by simp)
      have hxd := hl x (List.mem_cons_self ..)
      have hpos : 1 ≤ dval 0 (x :: l) := by
        have e : dval 0 (x :: l) = dval (0 * 10 + (x.toNat - 48)) l := rfl
        have := dval_ge l (0 * 10 + (x.toNat - 48))
        have := hxd.1
        omega
      have hi := ih hl (by simp) (.inr (fun e he => by simp at he; subst he; exact hx))
      have h9 : d.toNat - 48 < 10 := by have := hd.2; omega
      rw [Lib.decDigits, dif_neg (by omega), show (dval 0 (x :: l) * 10 + (d.toNat - 48)) / 10 = dval 0 (x :: l) by omega, show (dval 0 (x :: l) * 10 + (d.toNat - 48)) % 10 = d.toNat - 48 by omega, hi, hb]
/-- Digits with a zero ahead are not. -/
theorem digits_zero (l : List UInt8) (d : UInt8) (h : ∀ e ∈ d :: l, dig e) (hd : d.toNat = 48) (hl : l ≠ []) : Lib.decDigits (dval 0 (d :: l)) ≠ d :: l := by
  intro e
  have e1 : dval 0 (d :: l) = dval 0 l := by
    have : dval 0 (d :: l) = dval (0 * 10 + (d.toNat - 48)) l := rfl
    rw [this, hd]
  have hlt := dval_lt l 0 (fun x hx => h x (List.mem_cons_of_mem _ hx))
  have hpos : 1 ≤ l.length := by
    rcases l with _ | ⟨a, l⟩
    · exact absurd rfl hl
    · simp
  have hn := nDigits_le (dval 0 l) l.length hpos (by omega)
  have := congrArg List.length e
  rw [Lib.decDigits_length, e1, List.length_cons] at this
  omega
theorem bt_nat (s : ByteArray) (i : Nat) (h : i < s.size) : bt s (i : Int) = ((s.data.toList[i]'(by rw [data_length]; exact h)).toNat : Int) := by
  have := bt_at s (i : Int) (by simpa using h)
  rw [← this]
  simp
  rfl
/-- What the program answers. -/
def num (s : ByteArray) : Int × Bool :=
  if 1 ≤ s.size ∧ s.size ≤ 10 then
    match scan 0 s.data.toList with
    | none => (0, false)
    | some n => if n > 1000000000 then (0, false) else if Lib.decDigits n = s.data.toList then ((n : Int), true) else (0, false)
  else (0, false)
theorem impl_l0 (s : ByteArray) (hs : s.size ≤ 10) (d : Nat) : ∀ (i acc k : Nat), i + d = s.size → acc < 10 ^ i → d < k →
    impl_numberOf.l0 k s 1000000000 (acc : Int) (i : Int) = some (match scan acc (s.data.toList.drop i) with
      | none => (0, false)
      | some n => if n > 1000000000 then (0, false) else if Lib.decDigits n = s.data.toList then ((n : Int), true) else (0, false)) := by
  induction d with
  | zero =>
    intro i acc k hi ha hk
    obtain ⟨k, rfl⟩ := ix (show 0 < k by omega)
    have hp : 10 ^ i ≤ 10 ^ 10 := Nat.pow_le_pow_right (by omega) (by omega)
    simp only [impl_numberOf.l0]
    rw [if_neg (by omega), List.drop_of_length_le (by rw [data_length]; omega)]
    simp only [scan]
    by_cases c : acc > 1000000000
    · rw [if_pos (by omega), if_pos c]
    · rw [if_neg (by omega), if_neg c]
      unfold strconv_Itoa_18.f
      rw [if_pos (by omega)]
      simp only [Option.bind_some]
      rw [ByteArray.toList_mk, ByteArray.toList_eq]
      have ei : Lib.itoa (acc : Int) = Lib.decDigits acc := by
        unfold Lib.itoa
        rw [if_neg (by omega), Int.toNat_natCast]
      rw [ei]
      by_cases e : Lib.decDigits acc = s.data.toList
      · rw [if_pos e, if_pos e]
      · rw [if_neg e, if_neg e]
  | succ d ih =>
    intro i acc k hi ha hk
    obtain ⟨k, rfl⟩ := ix (show 0 < k by omega)
    have hlt : i < s.size := by omega
    have hl : i < s.data.toList.length := by rw [data_length]; exact hlt
    have hp : 10 ^ i ≤ 10 ^ 10 := Nat.pow_le_pow_right (by omega) (by omega)
    simp only [impl_numberOf.l0]
    rw [if_pos (by omega), if_pos (by omega), bt_nat s i hlt, List.drop_eq_getElem_cons hl, scan]
    generalize hx : s.data.toList[i] = x
    have hx255 : x.toNat < 256 := x.toNat_lt
    by_cases c1 : x.toNat < 48
    · rw [if_pos (by omega), if_neg (by unfold dig; omega)]
    · rw [if_neg (by omega)]
      by_cases c2 : x.toNat > 57
      · rw [if_pos (by omega), if_neg (by unfold dig; omega)]
      · rw [if_neg (by omega), if_pos (by unfold dig; omega)]
        have e1 : wrap64 (wrap64 ((acc : Int) * 10) + ((x.toNat : Int) - 48) % 256) = ((acc * 10 + (x.toNat - 48) : Nat) : Int) := by
          rw [w64 (x := (acc : Int) * 10) (by omega) (by omega), w64 (by omega) (by omega)]
          omega
        rw [e1, w64 (x := (i : Int) + 1) (by omega) (by omega)]
        have := ih (i + 1) (acc * 10 + (x.toNat - 48)) k (by omega) (by rw [Nat.pow_succ]; omega) (by omega)
        rw [show ((i : Int) + 1) = ((i + 1 : Nat) : Int) by omega]
        exact this
theorem impl_number (s : ByteArray) (hs : s.size ≤ 1048576) : ∀ k, 11 < k → impl_Number.f k s = some (num s) := by
  intro k hk
  have h1 : impl_numberOf.f k s 1000000000 = some (num s) := by
    unfold impl_numberOf.f num
    refine bs (inRange _ 1 10) ?_
    by_cases h : 1 ≤ s.size ∧ s.size ≤ 10
    · rw [if_pos (by simp; omega), if_pos h]
      have := impl_l0 s h.2 s.size 0 0 k (by omega) (by simp) (by omega)
      rw [List.drop_zero] at this
      exact this
    · rw [if_neg (by simp; omega), if_neg h]
  unfold impl_Number.f
  exact bs h1 rfl
end Go.Proofs.YtlgfcpmihocheaaDoor.LibNum
