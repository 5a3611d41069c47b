/- The codes as numbers: their sizes, their bounds, and that none is the beginning of another one. Condition: each theorem's own bounds. Bits: a number's lowest bits as a list, a row of bytes as its bits, codes laid one behind the other. Condition: each theorem's own bounds. huff: the row of bytes that it comes to, told as bits. Condition: each theorem's own bounds. -/
import Derived.Test.YthflimnpiglgbaaDoorLibK
import Derived.Test.YthflimnpiglgbaaDoorLibBits
set_option linter.unusedVariables false
set_option linter.unusedSimpArgs false
namespace Go.Proofs.YthflimnpiglgbaaDoor.LibHp
open Go Go.RowKit Go.Proofs.YthflimnpiglgbaaDoorW.PrintWords Go.Proofs.YthflimnpiglgbaaDoor.LibLens Go.Proofs.YthflimnpiglgbaaDoor.LibHuff Go.Proofs.YthflimnpiglgbaaDoor.LibMap
def codesN : List (Nat × Nat) := codes.map fun p => (p.1.toNat, p.2.toNat)
def okp (p q : Nat × Nat) : Bool := if q.2 < p.2 then p.1 / 2 ^ (p.2 - q.2) != q.1 else q.1 / 2 ^ (q.2 - p.2) != p.1
def pw : List (Nat × Nat) → Bool
  | [] => true
  | p :: l => l.all (okp p) && pw l
set_option maxRecDepth 100000 in
theorem pw_codes : pw codesN = true := by decide +kernel
def bnd (p : Nat × Nat) : Bool := decide (5 ≤ p.2) && decide (p.2 ≤ 30) && decide (p.1 < 2 ^ p.2)
set_option maxRecDepth 100000 in
theorem bnd_codes : codesN.all bnd = true := by decide +kernel
set_option maxRecDepth 100000 in
theorem codesN_len : codesN.length = 257 := by decide +kernel
set_option maxRecDepth 100000 in
theorem codes_nn : codes = codesN.map fun p => ((p.1 : Int), (p.2 : Int)) := by decide +kernel
/-- The code of a byte: its bits as a number, how many. -/
def cb (i : Nat) : Nat := (codesN.getD i (0, 0)).1
def cs (i : Nat) : Nat := (codesN.getD i (0, 0)).2
theorem cN_at {i : Nat} (h : i < 257) : codesN.getD i (0, 0) = codesN[i]'(by rw [codesN_len]; exact h) := by
  simp [List.getD_eq_getElem?_getD, List.getElem?_eq_getElem (show i < codesN.length by rw [codesN_len]; exact h)]
theorem code_at (i : Nat) : codes.getD i (0, 0) = ((cb i : Int), (cs i : Int)) := by
  unfold cb cs
  rw [codes_nn]
  by_cases h : i < codesN.length
  · simp [List.getD_eq_getElem?_getD, List.getElem?_eq_getElem h]
  · simp [List.getD_eq_getElem?_getD, List.getElem?_eq_none (show codesN.length ≤ i by omega)]
theorem bnds {i : Nat} (h : i < 257) : 5 ≤ cs i ∧ cs i ≤ 30 ∧ cb i < 2 ^ cs i := by
  have hl := codesN_len
  have := List.all_eq_true.1 bnd_codes (codesN[i]'(by omega)) (List.getElem_mem _)
  unfold bnd at this
  simp only [Bool.and_eq_true, decide_eq_true_eq] at this
  unfold cb cs
  rw [cN_at h]
  exact ⟨this.1.1, this.1.2, this.2⟩
theorem okp_comm (p q : Nat × Nat) : okp p q = okp q p := by
  unfold okp
  by_cases h : q.2 < p.2
  · rw [if_pos h, if_neg (by omega)]
  · by_cases h2 : p.2 < q.2
    · rw [if_neg h, if_pos h2]
    · have e : p.2 = q.2 := by omega
      rw [if_neg h, if_neg h2, e, Nat.sub_self]
      simp only [Nat.pow_zero, Nat.div_one]
      by_cases h3 : p.1 = q.1
      · simp [h3]
      · have h4 : ¬ q.1 = p.1 := fun e => h3 e.symm
        rw [bne_iff_ne.2 h3, bne_iff_ne.2 h4]
theorem pw_at : ∀ (l : List (Nat × Nat)), pw l = true → ∀ (i j : Nat) (hi : i < l.length) (hj : j < l.length), i < j → okp l[i] l[j] = true
  | [], _, i, _, hi, _, _ => by simp at hi
  | p :: l, h, i, j, hi, hj, hij => by
    simp only [pw, Bool.and_eq_true, List.all_eq_true] at h
    cases j with
    | zero => omega
    | succ j =>
      cases i with
      | zero => simp only [List.getElem_cons_zero, List.getElem_cons_succ]; exact h.1 _ (List.getElem_mem _)
      | succ i => simp only [List.getElem_cons_succ]; exact pw_at l h.2 i j (by simp at hi; omega) (by simp at hj; omega) (by omega)
theorem pf {i j : Nat} (hi : i < 257) (hj : j < 257) (hij : i ≠ j) : okp (cb i, cs i) (cb j, cs j) = true := by
  have hl := codesN_len
  have ei : (cb i, cs i) = codesN[i]'(by omega) := by unfold cb cs; rw [cN_at hi]
  have ej : (cb j, cs j) = codesN[j]'(by omega) := by unfold cb cs; rw [cN_at hj]
  rw [ei, ej]
  by_cases h : i < j
  · exact pw_at _ pw_codes i j _ _ h
  · rw [okp_comm]; exact pw_at _ pw_codes j i _ _ (by omega)
/-- A code's beginning is no other one's code. -/
theorem pre_ne {i j : Nat} (hi : i < 257) (hj : j < 257) (hs : cs j < cs i) : cb i / 2 ^ (cs i - cs j) ≠ cb j := by
  have h := pf hi hj (fun e => by subst e; omega)
  unfold okp at h
  simp only at h
  rw [if_pos hs] at h
  exact bne_iff_ne.1 h
theorem same_ne {i j : Nat} (hi : i < 257) (hj : j < 257) (hij : i ≠ j) (hs : cs j = cs i) : cb i ≠ cb j := by
  have h := pf hi hj hij
  unfold okp at h
  simp only at h
  rw [if_neg (by omega), hs, Nat.sub_self, Nat.pow_zero, Nat.div_one] at h
  exact fun e => bne_iff_ne.1 h e.symm
theorem eos : cb 256 = 2 ^ 30 - 1 ∧ cs 256 = 30 := by unfold cb cs; decide +kernel
/-! Look-ups -/
theorem look_none {q : Int × Int} (h : ∀ i, i < 257 → ((cb i : Int), (cs i : Int)) ≠ q) : lookC q = none := by
  unfold lookC
  have : ∀ k, k ≤ 257 → lookN q k = none := by
    intro k
    induction k with
    | zero => intro _; rfl
    | succ k ih => intro hk; unfold lookN; rw [code_at, if_neg (h k (by omega)), ih (by omega)]
  exact this 257 (Nat.le_refl _)
theorem lookN_some {q : Int × Int} : ∀ k j, lookN q k = some j → j < k ∧ ((cb j : Int), (cs j : Int)) = q := by
  intro k
  induction k with
  | zero => intro j h; cases h
  | succ k ih =>
    intro j h
    unfold lookN at h
    rw [code_at] at h
    by_cases e : ((cb k : Int), (cs k : Int)) = q
    · rw [if_pos e] at h; cases h; exact ⟨by omega, e⟩
    · rw [if_neg e] at h; have := ih j h; exact ⟨by omega, this.2⟩
theorem look_some {q : Int × Int} {j : Nat} (h : lookC q = some j) : j < 257 ∧ q = ((cb j : Int), (cs j : Int)) := by
  have := lookN_some 257 j h
  exact ⟨this.1, this.2.symm⟩
theorem look_code {j : Nat} (hj : j < 257) : lookC ((cb j : Int), (cs j : Int)) = some j := by
  cases h : lookC ((cb j : Int), (cs j : Int)) with
  | none =>
    exfalso
    have : ∀ k, j < k → lookN ((cb j : Int), (cs j : Int)) k ≠ none := by
      intro k
      induction k with
      | zero => intro h; omega
      | succ k ih =>
        intro hk
        unfold lookN
        rw [code_at]
        by_cases e : ((cb k : Int), (cs k : Int)) = ((cb j : Int), (cs j : Int))
        · rw [if_pos e]; exact fun h => by cases h
        · rw [if_neg e]; exact ih (by by_cases hkj : k = j
                                      · subst hkj; exact absurd rfl e
                                      · omega)
    exact this 257 hj h
  | some i =>
    obtain ⟨hi, e⟩ := look_some h
    simp only [Prod.mk.injEq] at e
    by_cases hij : j = i
    · rw [hij]
    · exact absurd (by omega : cb j = cb i) (same_ne hj hi hij (by omega))
theorem look_pre {j p : Nat} (hj : j < 257) (hp : p < cs j) : lookC (((cb j / 2 ^ (cs j - p) : Nat) : Int), (p : Int)) = none := by
  refine look_none fun i hi e => ?_
  simp only [Prod.mk.injEq] at e
  have e1 : cb i = cb j / 2 ^ (cs j - p) := by omega
  have e2 : cs i = p := by omega
  exact pre_ne hj hi (by omega) (by rw [e2]; exact e1.symm)
theorem look_ones {p : Nat} (hp : p < 30) : lookC (((2 ^ p - 1 : Nat) : Int), (p : Int)) = none := by
  have h := look_pre (j := 256) (p := p) (by omega) (by rw [eos.2]; exact hp)
  rw [eos.1, eos.2] at h
  have e : (2 ^ 30 - 1) / 2 ^ (30 - p) = 2 ^ p - 1 := by
    have h1 : (2 : Nat) ^ 30 = 2 ^ p * 2 ^ (30 - p) := by rw [← Nat.pow_add]; congr 1; omega
    have hpos : 0 < 2 ^ (30 - p) := Nat.pow_pos (by omega)
    have hpp : 0 < 2 ^ p := Nat.pow_pos (by omega)
    rw [h1]
    have h2 : 2 ^ p * 2 ^ (30 - p) - 1 = (2 ^ (30 - p) - 1) + (2 ^ p - 1) * 2 ^ (30 - p) := by
      rw [Nat.sub_mul, Nat.one_mul]
      have : 2 ^ (30 - p) ≤ 2 ^ p * 2 ^ (30 - p) := Nat.le_mul_of_pos_left _ hpp
      omega
    rw [h2, Nat.add_mul_div_right _ _ hpos, Nat.div_eq_of_lt (by omega), Nat.zero_add]
  rw [e] at h
  exact h
theorem lens_at {i : Int} (h0 : 0 ≤ i) (h : i < 257) : rd lensI i = (cs i.toNat : Int) ∧ rd bitsI i = (cb i.toNat : Int) := by
  rw [lensI_at i (by omega), bitsI_at i (by omega), code_at]
  exact ⟨rfl, rfl⟩
end Go.Proofs.YthflimnpiglgbaaDoor.LibHp
namespace Go.Proofs.YthflimnpiglgbaaDoor.LibHb
open Go Go.RowKit Go.Proofs.YthflimnpiglgbaaDoorW.PrintWords Go.Proofs.YthflimnpiglgbaaDoorW.PrintMore Go.Proofs.YthflimnpiglgbaaDoor.LibLens Go.Proofs.YthflimnpiglgbaaDoor.LibHuff Go.Proofs.YthflimnpiglgbaaDoor.LibMap Go.Proofs.YthflimnpiglgbaaDoor.LibUnH Go.Proofs.YthflimnpiglgbaaDoor.LibHp Go.Proofs.YthflimnpiglgbaaDoor.LibBits
/-- The lowest n bits, the highest first. -/
def nb (x : Nat) : Nat → List Int
  | 0 => []
  | n + 1 => ((x / 2 ^ n % 2 : Nat) : Int) :: nb x n
theorem nb_len (x n : Nat) : (nb x n).length = n := by
  induction n with
  | zero => rfl
  | succ n ih => simp [nb, ih]
theorem nb_bit (x n : Nat) : ∀ d ∈ nb x n, d = 0 ∨ d = 1 := by
  induction n with
  | zero => intro d h; cases h
  | succ n ih =>
    intro d h
    simp only [nb, List.mem_cons] at h
    rcases h with rfl | h
    · omega
    · exact ih d h
theorem nb_mod (x m : Nat) : ∀ n, n ≤ m → nb (x % 2 ^ m) n = nb x n := by
  intro n
  induction n with
  | zero => intro _; rfl
  | succ n ih =>
    intro h
    have e : x % 2 ^ m / 2 ^ n % 2 = x / 2 ^ n % 2 := by
      have h1 : (2 : Nat) ^ m = 2 ^ n * 2 ^ (m - n) := by rw [← Nat.pow_add]; congr 1; omega
      rw [h1, Nat.mod_mul_right_div_self]
      have h2 : (2 : Nat) ^ (m - n) = 2 * 2 ^ (m - n - 1) := by rw [← Nat.pow_succ']; congr 1; omega
      rw [h2, Nat.mod_mul_right_mod]
    simp only [nb]
    rw [e, ih (by omega)]
theorem nb_split (x n : Nat) : ∀ m, nb x (m + n) = nb (x / 2 ^ n) m ++ nb x n := by
  intro m
  induction m with
  | zero => simp [nb]
  | succ m ih =>
    have e : m + 1 + n = (m + n) + 1 := by omega
    rw [e]
    simp only [nb]
    rw [ih, Nat.div_div_eq_div_mul, ← Nat.pow_add, Nat.add_comm n m]
    rfl
theorem nb_join (a b m n : Nat) (hb : b < 2 ^ n) : nb (a * 2 ^ n + b) (m + n) = nb a m ++ nb b n := by
  have hpos : 0 < 2 ^ n := Nat.pow_pos (by omega)
  have e : (a * 2 ^ n + b) / 2 ^ n = a := by rw [Nat.add_comm, Nat.add_mul_div_right _ _ hpos, Nat.div_eq_of_lt hb, Nat.zero_add]
  have e2 : (a * 2 ^ n + b) % 2 ^ n = b := by rw [Nat.add_comm, Nat.add_mul_mod_self_right, Nat.mod_eq_of_lt hb]
  rw [nb_split, e, ← nb_mod (a * 2 ^ n + b) n n (Nat.le_refl _), e2]
theorem nb_snoc (x d n : Nat) (hd : d < 2) : nb (2 * x + d) (n + 1) = nb x n ++ [(d : Int)] := by
  have h := nb_join x d n 1 (by simpa using hd)
  rw [Nat.pow_one, Nat.mul_comm x 2] at h
  rw [h]
  simp [nb, Nat.mod_eq_of_lt hd]
theorem nb_ones (n : Nat) : nb (2 ^ n - 1) n = List.replicate n 1 := by
  induction n with
  | zero => rfl
  | succ n ih =>
    have hpos : 0 < 2 ^ n := Nat.pow_pos (by omega)
    have e : 2 ^ (n + 1) - 1 = 1 * 2 ^ n + (2 ^ n - 1) := by rw [Nat.pow_succ]; omega
    have h := nb_join 1 (2 ^ n - 1) 1 n (by omega)
    rw [← e, Nat.add_comm 1 n] at h
    rw [h, ih]
    rfl
theorem nb_inj (n : Nat) : ∀ x y, x < 2 ^ n → y < 2 ^ n → nb x n = nb y n → x = y := by
  induction n with
  | zero => intro x y hx hy _; simp at hx hy; omega
  | succ n ih =>
    intro x y hx hy h
    have hpos : 0 < 2 ^ n := Nat.pow_pos (by omega)
    simp only [nb, List.cons.injEq] at h
    have e := ih (x % 2 ^ n) (y % 2 ^ n) (Nat.mod_lt _ hpos) (Nat.mod_lt _ hpos) (by rw [nb_mod _ _ _ (Nat.le_refl _), nb_mod _ _ _ (Nat.le_refl _)]; exact h.2)
    have hx2 : x / 2 ^ n < 2 := Nat.div_lt_of_lt_mul (by rw [← Nat.pow_succ]; exact hx)
    have hy2 : y / 2 ^ n < 2 := Nat.div_lt_of_lt_mul (by rw [← Nat.pow_succ]; exact hy)
    have h1 : x / 2 ^ n = y / 2 ^ n := by
      have h3 := h.1
      generalize x / 2 ^ n = u at h3 hx2 ⊢
      generalize y / 2 ^ n = v at h3 hy2 ⊢
      omega
    rw [← Nat.div_add_mod x (2 ^ n), ← Nat.div_add_mod y (2 ^ n), h1, e]
/-! Rows of bytes -/
def Bytes (l : List Int) : Prop := ∀ x ∈ l, 0 ≤ x ∧ x ≤ 255
theorem bit_eq {x : Int} (h : 0 ≤ x ∧ x ≤ 255) (i : Nat) (hi : i < 64) : bit x (i : Int) = ((x.toNat / 2 ^ i % 2 : Nat) : Int) := by
  obtain ⟨x, rfl⟩ := Int.eq_ofNat_of_zero_le h.1
  have e : wrap64 (x : Int) = (x : Int) := by unfold wrap64; omega
  have e1 : shr .i64 (x : Int) (i : Int) = ((x / 2 ^ i : Nat) : Int) := by
    show (x : Int) / 2 ^ min (i : Int).toNat 64 = _
    rw [Int.toNat_natCast, Nat.min_eq_left (by omega)]
    norm_cast
  have hle : x / 2 ^ i ≤ x := Nat.div_le_self _ _
  unfold bit
  rw [e, e1, Int.toNat_natCast]
  generalize x / 2 ^ i = z at hle
  have hm := i64_mask (z : Int) 1 (by omega) (by omega) (by omega)
  have e2 : ((2 : Int) ^ 1 - 1) = 1 := by decide
  rw [e2] at hm
  rw [hm]
  have e3 : (2 : Int) ^ 1 = 2 := by decide
  rw [e3]
  omega
theorem byteBits_eq {x : Int} (h : 0 ≤ x ∧ x ≤ 255) (n : Nat) (hn : n ≤ 60) : byteBits x n = nb x.toNat n := by
  induction n with
  | zero => rfl
  | succ n ih => simp only [byteBits, nb]; rw [bit_eq h n (by omega), ih (by omega)]
theorem listBits_append (a b : List Int) : listBits (a ++ b) = listBits a ++ listBits b := by
  induction a with
  | nil => rfl
  | cons x a ih => simp only [List.cons_append, listBits, ih, List.append_assoc]
theorem byteBits_len (x : Int) (n : Nat) : (byteBits x n).length = n := by
  induction n with
  | zero => rfl
  | succ n ih => simp [byteBits, ih]
theorem listBits_len (l : List Int) : (listBits l).length = 8 * l.length := by
  induction l with
  | nil => rfl
  | cons x l ih => simp only [listBits, List.length_append, ih, byteBits_len, List.length_cons]; omega
theorem listBits_inj : ∀ (l m : List Int), Bytes l → Bytes m → listBits l = listBits m → l = m
  | [], [], _, _, _ => rfl
  | [], y :: m, _, _, h => by have := congrArg List.length h; rw [listBits_len, listBits_len] at this; simp at this
  | x :: l, [], _, _, h => by have := congrArg List.length h; rw [listBits_len, listBits_len] at this; simp at this
  | x :: l, y :: m, hl, hm, h => by
    have hx := hl x (List.mem_cons_self ..)
    have hy := hm y (List.mem_cons_self ..)
    simp only [listBits] at h
    obtain ⟨h1, h2⟩ := List.append_inj h (by rw [byteBits_len, byteBits_len])
    rw [byteBits_eq hx _ (by omega), byteBits_eq hy _ (by omega)] at h1
    have e := nb_inj 8 x.toNat y.toNat (by omega) (by omega) h1
    rw [listBits_inj l m (fun z hz => hl z (List.mem_cons_of_mem _ hz)) (fun z hz => hm z (List.mem_cons_of_mem _ hz)) h2]
    congr 1
    omega
theorem listBits_one {x : Int} (h : 0 ≤ x ∧ x ≤ 255) : listBits [x] = nb x.toNat 8 := by
  simp only [listBits, List.append_nil]
  exact byteBits_eq h 8 (by omega)
theorem listBits_bit (l : List Int) (hl : Bytes l) : ∀ d ∈ listBits l, d = 0 ∨ d = 1 := by
  induction l with
  | nil => intro d h; cases h
  | cons x l ih =>
    intro d h
    simp only [listBits, List.mem_append] at h
    rcases h with h | h
    · rw [byteBits_eq (hl x (List.mem_cons_self ..)) _ (by omega)] at h
      exact nb_bit _ _ _ h
    · exact ih (fun z hz => hl z (List.mem_cons_of_mem _ hz)) d h
/-! Codes laid one behind the other -/
def cbs (js : List Nat) : List Int := js.flatMap fun j => nb (cb j) (cs j)
theorem cbs_nil : cbs [] = [] := rfl
theorem cbs_cons (j : Nat) (js : List Nat) : cbs (j :: js) = nb (cb j) (cs j) ++ cbs js := by simp [cbs]
theorem cbs_append (a b : List Nat) : cbs (a ++ b) = cbs a ++ cbs b := by simp [cbs]
/-- A string's bytes as numbers. -/
def syms (s : ByteArray) : List Nat := s.data.toList.map (·.toNat)
theorem syms_len (s : ByteArray) : (syms s).length = s.size := by unfold syms; rw [List.length_map, data_length]
theorem syms_lt (s : ByteArray) : ∀ j ∈ syms s, j < 256 := by
  intro j h
  unfold syms at h
  obtain ⟨b, _, rfl⟩ := List.mem_map.1 h
  exact b.toNat_lt
theorem syms_drop (s : ByteArray) (i : Nat) (h : i < s.size) : (syms s).drop i = (bt s (i : Int)).toNat :: (syms s).drop (i + 1) := by
  have hl := syms_len s
  rw [List.drop_eq_getElem_cons (by omega)]
  congr 1
  have := bt_at s (i : Int) (by simpa using h)
  rw [← this]
  simp [syms]
  rfl
end Go.Proofs.YthflimnpiglgbaaDoor.LibHb
namespace Go.Proofs.YthflimnpiglgbaaDoor.LibHf
open Go Go.RowKit Go.Proofs.YthflimnpiglgbaaDoorW.PrintWords Go.Proofs.YthflimnpiglgbaaDoorW.PrintMore Go.Proofs.YthflimnpiglgbaaDoor.LibLens Go.Proofs.YthflimnpiglgbaaDoor.LibHuff Go.Proofs.YthflimnpiglgbaaDoor.LibHuffB Go.Proofs.YthflimnpiglgbaaDoor.LibMap Go.Proofs.YthflimnpiglgbaaDoor.LibUnH Go.Proofs.YthflimnpiglgbaaDoor.LibHp Go.Proofs.YthflimnpiglgbaaDoor.LibBits Go.Proofs.YthflimnpiglgbaaDoor.LibHb
theorem ix {k : Nat} (h : 0 < k) : ∃ m, k = m + 1 := ⟨k - 1, by omega⟩
theorem w64 {x : Int} (h0 : -9223372036854775808 ≤ x) (h1 : x ≤ 9223372036854775807) : wrap64 x = x := by unfold wrap64; omega
theorem u64w {x : Int} (h0 : 0 ≤ x) (h1 : x ≤ 9223372036854775807) : IntKind.u64.wrap x = x := by
  unfold IntKind.wrap
  simp only [IntKind.signed, IntKind.bits, Bool.false_and, Bool.false_eq_true, if_false]
  omega
theorem shr_nat (x n : Nat) (hn : n ≤ 64) : shr .i64 (x : Int) (n : Int) = ((x / 2 ^ n : Nat) : Int) := by
  show (x : Int) / 2 ^ min (n : Int).toNat 64 = _
  rw [Int.toNat_natCast, Nat.min_eq_left hn]
  norm_cast
theorem shl_nat (x n : Nat) (hn : n ≤ 64) (hx : x * 2 ^ n < 2 ^ 63) : shl .i64 (x : Int) (n : Int) = ((x * 2 ^ n : Nat) : Int) := by
  have e : shl .i64 (x : Int) (n : Int) = IntKind.i64.wrap ((x : Int) * 2 ^ min (n : Int).toNat 64) := rfl
  rw [e, Int.toNat_natCast, Nat.min_eq_left hn, IntKind.wrap_i64]
  have e2 : ((x : Int) * 2 ^ n) = ((x * 2 ^ n : Nat) : Int) := by norm_cast
  rw [e2]
  generalize x * 2 ^ n = z at hx
  omega
theorem mask_nat (x n : Nat) (hn : n ≤ 62) (hx : x < 2 ^ 63) : Go.bits .and .i64 (x : Int) (wrap64 ((shl .i64 1 (n : Int)) - 1)) = ((x % 2 ^ n : Nat) : Int) := by
  have hp : (2 : Nat) ^ n ≤ 2 ^ 62 := Nat.pow_le_pow_right (by omega) hn
  have h1 := shl_nat 1 n (by omega) (by omega)
  have e1 : ((1 : Nat) : Int) = 1 := rfl
  rw [e1, Nat.one_mul] at h1
  have hpos : 0 < 2 ^ n := Nat.pow_pos (by omega)
  have h2 : wrap64 (((2 ^ n : Nat) : Int) - 1) = 2 ^ n - 1 := by
    have e2 : ((2 ^ n : Nat) : Int) = 2 ^ n := by norm_cast
    rw [w64 (by omega) (by omega), e2]
  rw [h1, h2, i64_mask (x : Int) n (by omega) (by omega) (by omega)]
  norm_cast
theorem or_nat (a b n : Nat) (hb : b < 2 ^ n) (ha : a * 2 ^ n < 2 ^ 62) (hn : n ≤ 62) : Go.bits .or .i64 ((a * 2 ^ n : Nat) : Int) (b : Int) = ((a * 2 ^ n + b : Nat) : Int) := by
  have hp : (2 : Nat) ^ n ≤ 2 ^ 62 := Nat.pow_le_pow_right (by omega) hn
  have h1 : (((a * 2 ^ n : Nat) : Int)) % 2 ^ n = 0 := by
    have e2 : ((2 : Int) ^ n) = ((2 ^ n : Nat) : Int) := by norm_cast
    rw [e2]
    exact congrArg Int.ofNat (Nat.mul_mod_left a (2 ^ n))
  have h2 : ((b : Nat) : Int) < 2 ^ n := by
    have e2 : ((2 : Int) ^ n) = ((2 ^ n : Nat) : Int) := by norm_cast
    rw [e2]
    omega
  rw [i64_join n _ _ (by omega) h1 (by omega) (by omega) h2 (by omega)]
  norm_cast
theorem bytes_snoc {l : List Int} (h : Bytes l) (x : Nat) (hx : x < 256) : Bytes (l ++ [(x : Int)]) := by
  intro y hy
  simp only [List.mem_append, List.mem_singleton] at hy
  rcases hy with hy | rfl
  · exact h y hy
  · omega
theorem bits_snoc (l : List Int) (x : Nat) (hx : x < 256) : listBits (l ++ [(x : Int)]) = listBits l ++ nb x 8 := by
  rw [listBits_append, listBits_one (by omega), Int.toNat_natCast]
/-- What the inner loop leaves. -/
theorem hf1_run (s : ByteArray) (i : Int) (d : Nat) : ∀ (out : List Int) (held size : Nat), size / 8 = d → size ≤ 45 → held < 2 ^ size → Bytes out → out.length + d < 140737488355328 →
    ∃ (out' : List Int) (held' size' : Nat), size' < 8 ∧ held' < 2 ^ size' ∧ Bytes out' ∧ out'.length = out.length + d ∧ listBits out' ++ nb held' size' = listBits out ++ nb held size ∧
      ∀ (K : Nat) (r : List Int), (∀ k, K ≤ k → hf0 k s lensI bitsI out' (held' : Int) (size' : Int) (wrap64 (i + 1)) = some r) → ∀ k, K + d + 1 ≤ k → hf1 k s lensI bitsI out (held : Int) (size : Int) i = some r := by
  induction d with
  | zero =>
    intro out held size hd hs hh hb ho
    refine ⟨out, held, size, by omega, hh, hb, by omega, rfl, fun K r hK k hk => ?_⟩
    obtain ⟨k, rfl⟩ := ix (show 0 < k by omega)
    simp only [hf1]
    rw [if_neg (by omega)]
    exact hK k (by omega)
  | succ d ih =>
    intro out held size hd hs hh hb ho
    have hpos : 0 < 2 ^ (size - 8) := Nat.pow_pos (by omega)
    have h63 : held < 2 ^ 45 := Nat.lt_of_lt_of_le hh (Nat.pow_le_pow_right (by omega) hs)
    have hq : held / 2 ^ (size - 8) < 256 := by
      refine Nat.div_lt_of_lt_mul ?_
      have : (2 : Nat) ^ size = 2 ^ (size - 8) * 256 := by
        have : (256 : Nat) = 2 ^ 8 := rfl
        rw [this, ← Nat.pow_add]
        congr 1
        omega
      omega
    obtain ⟨out', held', size', g1, g2, g3, g4, g5, g6⟩ := ih (out ++ [((held / 2 ^ (size - 8) : Nat) : Int)]) (held % 2 ^ (size - 8)) (size - 8) (by omega) (by omega) (Nat.mod_lt _ hpos) (bytes_snoc hb _ hq) (by simp; omega)
    refine ⟨out', held', size', g1, g2, g3, by rw [g4]; simp; omega, ?_, fun K r hK k hk => ?_⟩
    · rw [g5, bits_snoc _ _ hq, List.append_assoc]
      congr 1
      have e : size = 8 + (size - 8) := by omega
      have h := nb_split held (size - 8) 8
      rw [← e] at h
      rw [h, nb_mod _ _ _ (Nat.le_refl _)]
    · obtain ⟨k, rfl⟩ := ix (show 0 < k by omega)
      simp only [hf1]
      have e1 : wrap64 ((size : Int) - 8) = ((size - 8 : Nat) : Int) := by rw [w64 (by omega) (by omega)]; omega
      rw [if_pos (by omega), e1, u64w (by omega) (by omega), if_pos (by omega), if_pos (by omega), shr_nat _ _ (by omega), mask_nat _ _ (by omega) (by omega)]
      have e2 : (((held / 2 ^ (size - 8) : Nat) : Int)) % 256 = ((held / 2 ^ (size - 8) : Nat) : Int) := by
        generalize held / 2 ^ (size - 8) = z at hq
        omega
      rw [e2]
      exact g6 K r hK k (by omega)
/-- The whole loop. -/
theorem hf0_run (s : ByteArray) (hs : s.size ≤ 1000000000) (d : Nat) : ∀ (i : Nat) (out : List Int) (held size : Nat), i ≤ s.size → s.size - i = d → size < 8 → held < 2 ^ size → Bytes out → out.length + 5 * d ≤ 140737488355000 →
    ∃ (K : Nat) (r : List Int) (p : Nat), p < 8 ∧ Bytes r ∧ r.length ≤ out.length + 5 * d + 1 ∧ listBits r = listBits out ++ nb held size ++ cbs ((syms s).drop i) ++ List.replicate p 1 ∧ ∀ k, K ≤ k → hf0 k s lensI bitsI out (held : Int) (size : Int) (i : Int) = some r := by
  induction d with
  | zero =>
    intro i out held size hi hd hz hh hb ho
    have hdr : (syms s).drop i = [] := List.drop_of_length_le (by rw [syms_len]; omega)
    by_cases h0 : size = 0
    · subst h0
      refine ⟨1, out, 0, by omega, hb, by omega, by rw [hdr]; simp [nb, cbs], fun k hk => ?_⟩
      obtain ⟨k, rfl⟩ := ix (show 0 < k by omega)
      simp only [hf0]
      rw [if_neg (by omega), if_neg (by omega)]
    · have hpp : (2 : Nat) ^ (8 - size) ≤ 2 ^ 8 := Nat.pow_le_pow_right (by omega) (by omega)
      have hpos : 0 < 2 ^ (8 - size) := Nat.pow_pos (by omega)
      have h8 : held * 2 ^ (8 - size) + (2 ^ (8 - size) - 1) < 256 := by
        have e : (256 : Nat) = 2 ^ size * 2 ^ (8 - size) := by rw [← Nat.pow_add, show size + (8 - size) = 8 by omega]
        have : held * 2 ^ (8 - size) + 2 ^ (8 - size) ≤ 2 ^ size * 2 ^ (8 - size) := by
          rw [← Nat.succ_mul]
          exact Nat.mul_le_mul_right _ hh
        omega
      refine ⟨1, out ++ [((held * 2 ^ (8 - size) + (2 ^ (8 - size) - 1) : Nat) : Int)], 8 - size, by omega, bytes_snoc hb _ h8, by simp, ?_, fun k hk => ?_⟩
      · rw [hdr, bits_snoc _ _ h8, cbs_nil, List.append_nil, List.append_assoc]
        congr 1
        have h := nb_join held (2 ^ (8 - size) - 1) size (8 - size) (by omega)
        rw [show size + (8 - size) = 8 by omega, nb_ones] at h
        exact h
      · obtain ⟨k, rfl⟩ := ix (show 0 < k by omega)
        simp only [hf0]
        have e1 : wrap64 (8 - (size : Int)) = ((8 - size : Nat) : Int) := by rw [w64 (by omega) (by omega)]; omega
        have hlt : held * 2 ^ (8 - size) < 256 := by omega
        have hs1 := shl_nat 1 (8 - size) (by omega) (by omega)
        have e3 : ((1 : Nat) : Int) = 1 := rfl
        rw [e3, Nat.one_mul] at hs1
        have e4 : wrap64 (((2 ^ (8 - size) : Nat) : Int) - 1) = ((2 ^ (8 - size) - 1 : Nat) : Int) := by
          generalize 2 ^ (8 - size) = z at hpp hpos
          rw [w64 (by omega) (by omega)]
          omega
        rw [if_neg (by omega), if_pos (by omega), e1, u64w (by omega) (by omega), if_pos (by omega), if_pos (by omega), shl_nat _ _ (by omega) (by omega), hs1, e4, or_nat _ _ _ (by omega) (by omega) (by omega)]
        have e2 : (((held * 2 ^ (8 - size) + (2 ^ (8 - size) - 1) : Nat) : Int)) % 256 = ((held * 2 ^ (8 - size) + (2 ^ (8 - size) - 1) : Nat) : Int) := by
          generalize held * 2 ^ (8 - size) + (2 ^ (8 - size) - 1) = z at h8
          omega
        rw [e2]
  | succ d ih =>
    intro i out held size hi hd hz hh hb ho
    have hbt := bt_range s (i : Int)
    obtain ⟨j, hj⟩ : ∃ j : Nat, bt s (i : Int) = (j : Int) := Int.eq_ofNat_of_zero_le hbt.1
    have hj2 : j < 256 := by omega
    have hbd := bnds (i := j) (by omega)
    have hdr := syms_drop s i (by omega)
    rw [hj, Int.toNat_natCast] at hdr
    have hla := lens_at (i := (j : Int)) (by omega) (by omega)
    rw [Int.toNat_natCast] at hla
    have hh7 : held < 128 := Nat.lt_of_lt_of_le hh (by have := Nat.pow_le_pow_right (show 0 < 2 by omega) (show size ≤ 7 by omega); omega)
    have hp30 : (2 : Nat) ^ cs j ≤ 2 ^ 30 := Nat.pow_le_pow_right (by omega) hbd.2.1
    have hm : held * 2 ^ cs j ≤ 127 * 2 ^ 30 := Nat.mul_le_mul (by omega) hp30
    have hnew : held * 2 ^ cs j + cb j < 2 ^ (size + cs j) := by
      rw [Nat.pow_add]
      have : held * 2 ^ cs j + 2 ^ cs j ≤ 2 ^ size * 2 ^ cs j := by
        rw [← Nat.succ_mul]
        exact Nat.mul_le_mul_right _ hh
      omega
    obtain ⟨out', held', size', g1, g2, g3, g4, g5, g6⟩ := hf1_run s (i : Int) ((size + cs j) / 8) out (held * 2 ^ cs j + cb j) (size + cs j) rfl (by omega) hnew hb (by omega)
    obtain ⟨K, r, p, f1, f2, f3, f4, f5⟩ := ih (i + 1) out' held' size' (by omega) (by omega) g1 g2 g3 (by omega)
    refine ⟨K + (size + cs j) / 8 + 2, r, p, f1, f2, by omega, ?_, fun k hk => ?_⟩
    · rw [f4, hdr, cbs_cons, g5, nb_join _ _ _ _ hbd.2.2]
      simp only [List.append_assoc]
    · obtain ⟨k, rfl⟩ := ix (show 0 < k by omega)
      have hll := lensI_len
      have hbl := bitsI_len
      simp only [hf0]
      rw [hj, hla.1, hla.2, if_pos (by omega), if_pos (by omega), if_pos (by omega), if_pos (by omega), u64w (by omega) (by omega), if_pos (by omega), if_pos (by omega), shl_nat _ _ (by omega) (by omega), or_nat _ _ _ hbd.2.2 (by omega) (by omega), w64 (x := (size : Int) + (cs j : Int)) (by omega) (by omega)]
      have e : (size : Int) + (cs j : Int) = ((size + cs j : Nat) : Int) := by omega
      rw [e]
      refine g6 K r ?_ k (by omega)
      intro k2 hk2
      rw [w64 (by omega) (by omega)]
      exact f5 k2 hk2
theorem huff_bits (s : ByteArray) (hs : s.size ≤ 1000000000) (l : List Int) (hb : Bytes l) (hl : l.length ≤ 1000000000000) :
    ∃ (K : Nat) (r : List Int) (p : Nat), p < 8 ∧ Bytes r ∧ listBits r = listBits l ++ cbs (syms s) ++ List.replicate p 1 ∧ r.length ≤ l.length + 5 * s.size + 1 ∧ ∀ k, K ≤ k → hf0 k s lensI bitsI l 0 0 0 = some r := by
  obtain ⟨K, r, p, h1, h2, h3, h4, h5⟩ := hf0_run s hs s.size 0 l 0 0 (by omega) (by omega) (by omega) (by omega) hb (by omega)
  exact ⟨K, r, p, h1, h2, by simpa [nb] using h4, h3, h5⟩
/-- The program's sum of lengths is how many bits there are. -/
theorem hsum_bits (s : ByteArray) (hs : s.size ≤ 1000000000) : ∀ i, i ≤ s.size → hsum s i = ((cbs ((syms s).take i)).length : Int) ∧ (cbs ((syms s).take i)).length ≤ 30 * i := by
  intro i
  induction i with
  | zero => intro _; exact ⟨rfl, by simp [cbs]⟩
  | succ i ih =>
    intro hi
    obtain ⟨h1, h2⟩ := ih (by omega)
    have hbt := bt_range s (i : Int)
    obtain ⟨j, hj⟩ : ∃ j : Nat, bt s (i : Int) = (j : Int) := Int.eq_ofNat_of_zero_le hbt.1
    have hbd := bnds (i := j) (by omega)
    have hdr := syms_drop s i (by omega)
    rw [hj, Int.toNat_natCast] at hdr
    have hla := lens_at (i := (j : Int)) (by omega) (by omega)
    rw [Int.toNat_natCast] at hla
    have ht : (syms s).take (i + 1) = (syms s).take i ++ [j] := by
      have hl := syms_len s
      have e : (syms s)[i]'(by omega) = j := by
        have := List.drop_eq_getElem_cons (l := syms s) (i := i) (by omega)
        rw [hdr] at this
        exact (List.cons.inj this).1.symm
      rw [List.take_succ_eq_append_getElem (by omega), e]
    rw [ht, cbs_append, List.length_append]
    have e1 : (cbs [j]).length = cs j := by rw [cbs_cons, cbs_nil, List.append_nil, nb_len]
    rw [e1]
    refine ⟨?_, by omega⟩
    simp only [hsum]
    rw [hj, hla.1, h1, w64 (by omega) (by omega)]
    omega
theorem hlen_bits (s : ByteArray) (hs : s.size ≤ 1000000000) : hlen s = (((cbs (syms s)).length + 7) / 8 : Nat) := by
  obtain ⟨h1, h2⟩ := hsum_bits s hs s.size (Nat.le_refl _)
  have e : (syms s).take s.size = syms s := List.take_of_length_le (by rw [syms_len]; omega)
  rw [e] at h1 h2
  unfold hlen
  rw [h1, w64 (x := _ + 7) (by omega) (by omega)]
  have e2 : Int.tdiv ((((cbs (syms s)).length : Int)) + 7) 8 = ((((cbs (syms s)).length + 7) / 8 : Nat) : Int) := by
    rw [Int.tdiv_eq_ediv_of_nonneg (by omega)]
    omega
  rw [e2, w64 (by omega) (by omega)]
end Go.Proofs.YthflimnpiglgbaaDoor.LibHf
