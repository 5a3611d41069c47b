/- UnHuff: the reference's answer is the program's. Condition: each theorem's own bounds. -/
import Derived.Test.YthflimnpiglgbaaDoorLibUh
import Derived.Test.YthflimnpiglgbaaDoorLibK
import Derived.Test.YthflimnpiglgbaaDoorAx20
import Derived.Test.YthflimnpiglgbaaDoorAx21
set_option linter.unusedVariables false
set_option linter.unusedSimpArgs false
namespace Go.Proofs.YthflimnpiglgbaaDoor.LibUx
open Go Go.RowKit Go.Proofs.YthflimnpiglgbaaDoor.A Go.Proofs.YthflimnpiglgbaaDoorW.PrintWords Go.Proofs.YthflimnpiglgbaaDoorW.PrintLast Go.Proofs.YthflimnpiglgbaaDoorW.PrintMore Go.Proofs.YthflimnpiglgbaaDoor.LibLens Go.Proofs.YthflimnpiglgbaaDoor.LibHuff Go.Proofs.YthflimnpiglgbaaDoor.LibHuffB Go.Proofs.YthflimnpiglgbaaDoor.LibMap Go.Proofs.YthflimnpiglgbaaDoor.LibUnH Go.Proofs.YthflimnpiglgbaaDoor.LibHp Go.Proofs.YthflimnpiglgbaaDoor.LibBits Go.Proofs.YthflimnpiglgbaaDoor.LibHb Go.Proofs.YthflimnpiglgbaaDoor.LibHf Go.Proofs.YthflimnpiglgbaaDoor.LibUh Go.Proofs.YthflimnpiglgbaaDoor.LibWrap2
/-- What the reference's look-up says. -/
def tgt (o : Option Nat) : Int := match o with | some j => if j = 256 then -1 else (j : Int) | none => -1
theorem find_l (acc n : Nat) (o : Option Nat) (ho : lookC ((acc : Int), (n : Int)) = o) (d : Nat) : ∀ (k x : Nat), x ≤ 256 → 256 - x = d → d < k → (∀ i, i < x → ¬ (cb i = acc ∧ cs i = n)) → spec_l3Find.l0 k lensI bitsI (n : Int) (acc : Int) (x : Int) = some (tgt o) := by
  have hll := lensI_len
  have hbl := bitsI_len
  induction d with
  | zero =>
    intro k x hx hd hk h
    obtain ⟨k, rfl⟩ := LibHf.ix (show 0 < k by omega)
    have ht : tgt o = -1 := by
      cases o with
      | none => rfl
      | some j =>
        obtain ⟨hj, hq⟩ := look_some ho
        simp only [Prod.mk.injEq] at hq
        have : j = 256 := by
          by_cases hj2 : j < x
          · exact absurd ⟨by omega, by omega⟩ (h j hj2)
          · omega
        exact if_pos this
    simp only [spec_l3Find.l0]
    rw [if_neg (by omega), ht]
  | succ d ih =>
    intro k x hx hd hk h
    obtain ⟨k, rfl⟩ := LibHf.ix (show 0 < k by omega)
    have hla := lens_at (i := (x : Int)) (by omega) (by omega)
    rw [Int.toNat_natCast] at hla
    simp only [spec_l3Find.l0]
    rw [hla.1, hla.2, if_pos (by omega), if_pos (by omega), if_pos (by omega), w64 (by omega) (by omega)]
    by_cases h1 : (cs x : Int) = (n : Int)
    · rw [if_pos h1, if_pos (by omega)]
      by_cases h2 : (cb x : Int) = (acc : Int)
      · have hk2 := look_code (j := x) (by omega)
        rw [h1, h2, ho] at hk2
        have ht : tgt o = (x : Int) := by
          rw [hk2]
          exact if_neg (by omega)
        rw [if_pos h2, ht]
      · rw [if_neg h2]
        exact ih k (x + 1) (by omega) (by omega) (by omega) (fun i hi hq => by
          by_cases hix : i = x
          · subst hix; exact h2 (by omega)
          · exact h i (by omega) hq)
    · rw [if_neg h1]
      exact ih k (x + 1) (by omega) (by omega) (by omega) (fun i hi hq => by
          by_cases hix : i = x
          · subst hix; exact h1 (by omega)
          · exact h i (by omega) hq)
theorem find (acc n k : Nat) (o : Option Nat) (ho : lookC ((acc : Int), (n : Int)) = o) (hk : 257 ≤ k) : spec_l3Find.f k lensI bitsI (n : Int) (acc : Int) = some (tgt o) := by
  unfold spec_l3Find.f
  exact find_l acc n o ho 256 k 0 (by omega) (by omega) (by omega) (fun i hi => by omega)
theorem su_high {b : Nat} {ds : List Int} {acc n : Nat} {out : List Int} (h : n + 1 > 30) : su ((b : Int) :: ds) acc n out = (⟨#[]⟩, false) := by
  rw [su, if_pos h]
theorem su_none {b : Nat} {ds : List Int} {acc n : Nat} {out : List Int} (h : ¬ n + 1 > 30) (ho : lookC (((2 * acc + b : Nat) : Int), ((n + 1 : Nat) : Int)) = none) : su ((b : Int) :: ds) acc n out = su ds (2 * acc + b) (n + 1) out := by
  rw [su, if_neg h, Int.toNat_natCast, ho]
theorem su_eos {b : Nat} {ds : List Int} {acc n : Nat} {out : List Int} {j : Nat} (h : ¬ n + 1 > 30) (ho : lookC (((2 * acc + b : Nat) : Int), ((n + 1 : Nat) : Int)) = some j) (hj : j = 256) : su ((b : Int) :: ds) acc n out = su ds (2 * acc + b) (n + 1) out := by
  rw [su, if_neg h, Int.toNat_natCast, ho]
  exact if_pos hj
theorem su_some {b : Nat} {ds : List Int} {acc n : Nat} {out : List Int} {j : Nat} (h : ¬ n + 1 > 30) (ho : lookC (((2 * acc + b : Nat) : Int), ((n + 1 : Nat) : Int)) = some j) (hj : ¬ j = 256) : su ((b : Int) :: ds) acc n out = su ds 0 0 (out ++ [(j : Int)]) := by
  rw [su, if_neg h, Int.toNat_natCast, ho]
  exact if_neg hj
theorem byteBits_drop (x : Int) (n : Nat) : ∀ i, i < n → (byteBits x n).drop i = bit x ((n - 1 - i : Nat) : Int) :: (byteBits x n).drop (i + 1) := by
  induction n with
  | zero => intro i h; omega
  | succ n ih =>
    intro i h
    cases i with
    | zero => simp [byteBits]
    | succ i =>
      simp only [byteBits, List.drop_succ_cons]
      rw [ih i (by omega)]
      congr 3
      omega
theorem bits_drop : ∀ (l : List Int) (i : Nat), i < 8 * l.length → (listBits l).drop i = bit (rd l ((i / 8 : Nat) : Int)) ((7 - i % 8 : Nat) : Int) :: (listBits l).drop (i + 1)
  | [], i, h => by simp at h
  | x :: l, i, h => by
    have hb := byteBits_len x 8
    simp only [listBits]
    by_cases h8 : i < 8
    · have e1 : i / 8 = 0 := by omega
      have e2 : i % 8 = i := by omega
      rw [List.drop_append_of_le_length (by omega), List.drop_append_of_le_length (by omega), byteBits_drop x 8 i h8, e1, e2]
      first | done | simp [rd]
    · obtain ⟨j, rfl⟩ : ∃ j, i = 8 + j := ⟨i - 8, by omega⟩
      have e1 : (8 + j) / 8 = j / 8 + 1 := by omega
      have e2 : (8 + j) % 8 = j % 8 := by omega
      have e3 : ∀ m, (byteBits x 8 ++ listBits l).drop (8 + m) = (listBits l).drop m := fun m => by
        have h8 : (byteBits x 8 ++ listBits l).drop (byteBits x 8).length = listBits l := by simp
        rw [hb] at h8
        rw [← List.drop_drop, h8]
      have e4 : rd (x :: l) ((j / 8 + 1 : Nat) : Int) = rd l ((j / 8 : Nat) : Int) := by
        show (x :: l).getD ((j / 8 + 1 : Nat) : Int).toNat 0 = l.getD ((j / 8 : Nat) : Int).toNat 0
        rw [Int.toNat_natCast, Int.toNat_natCast]
        rfl
      rw [e3, show 8 + j + 1 = 8 + (j + 1) by omega, e3, bits_drop l j (by simp at h; omega), e1, e2, e4]
theorem spec_l (l : List Int) (hl : l.length ≤ 100000000) (hb : Bytes l) (d : Nat) : ∀ (k i acc n : Nat) (out : List Int), i ≤ 8 * l.length → 8 * l.length - i = d → d + 300 < k → acc < 2 ^ n → n ≤ 30 → out.length ≤ i →
    spec_UnHuff.l0 k l lensI bitsI out (acc : Int) (n : Int) (i : Int) = some (su ((listBits l).drop i) acc n out) := by
  have hbl := listBits_len l
  have hbb := listBits_bit l hb
  induction d with
  | zero =>
    intro k i acc n out hi hd hk ha hn ho
    obtain ⟨k, rfl⟩ := LibHf.ix (show 0 < k by omega)
    simp only [spec_UnHuff.l0]
    rw [w64 (x := 8 * (l.length : Int)) (by omega) (by omega), if_neg (by omega), List.drop_of_length_le (by omega), su]
    by_cases h7 : n > 7
    · rw [if_pos (by omega), if_pos h7]
    · have hp : (2 : Nat) ^ n ≤ 2 ^ 7 := Nat.pow_le_pow_right (by omega) (by omega)
      have hpos : 0 < 2 ^ n := Nat.pow_pos (by omega)
      have h1 := shl_nat 1 n (by omega) (by omega)
      rw [show ((1 : Nat) : Int) = 1 from rfl, Nat.one_mul] at h1
      rw [if_neg (by omega), if_neg h7, u64w (by omega) (by omega), if_pos (by omega), h1, w64 (by omega) (by omega)]
      by_cases he : acc = 2 ^ n - 1
      · rw [if_pos he, if_pos (by omega)]
      · rw [if_neg he, if_neg (by omega)]
  | succ d ih =>
    intro k i acc n out hi hd hk ha hn ho
    obtain ⟨k, rfl⟩ := LibHf.ix (show 0 < k by omega)
    have hdr := bits_drop l i (by omega)
    have hbit : bit (rd l ((i / 8 : Nat) : Int)) ((7 - i % 8 : Nat) : Int) = 0 ∨ bit (rd l ((i / 8 : Nat) : Int)) ((7 - i % 8 : Nat) : Int) = 1 := by
      refine hbb _ ?_
      have : bit (rd l ((i / 8 : Nat) : Int)) ((7 - i % 8 : Nat) : Int) ∈ (listBits l).drop i := by rw [hdr]; exact List.mem_cons_self ..
      exact List.mem_of_mem_drop this
    obtain ⟨b, hbt⟩ : ∃ b : Nat, bit (rd l ((i / 8 : Nat) : Int)) ((7 - i % 8 : Nat) : Int) = (b : Int) := ⟨_, (Int.toNat_of_nonneg (by rcases hbit with h | h <;> omega)).symm⟩
    have hb2 : b < 2 := by rcases hbit with h | h <;> omega
    obtain ⟨e1, e2⟩ := or_bit acc n b hb2 ha hn
    have e3 : wrap64 ((n : Int) + 1) = ((n + 1 : Nat) : Int) := by rw [w64 (by omega) (by omega)]; omega
    have t1 : wrap64 (Int.tdiv (i : Int) 8) = ((i / 8 : Nat) : Int) := by
      rw [Int.tdiv_eq_ediv_of_nonneg (by omega), w64 (by omega) (by omega)]
      omega
    have t2 : IntKind.u64.wrap (wrap64 (7 - Int.tmod (i : Int) 8)) = ((7 - i % 8 : Nat) : Int) := by
      rw [Int.tmod_eq_emod_of_nonneg (by omega), w64 (by omega) (by omega), u64w (by omega) (by omega)]
      omega
    have t3 : Go.bits .and .i64 (shr .i64 (wrap64 (rd l ((i / 8 : Nat) : Int))) ((7 - i % 8 : Nat) : Int)) 1 = (b : Int) := hbt
    simp only [spec_UnHuff.l0]
    rw [w64 (x := 8 * (l.length : Int)) (by omega) (by omega), if_pos (by omega), t1, t2, t3, e1, e3, if_pos (by omega), if_pos (by omega), if_pos (by omega), w64 (x := (i : Int) + 1) (by omega) (by omega), hdr, hbt]
    have ei : (i : Int) + 1 = ((i + 1 : Nat) : Int) := rfl
    rw [ei]
    have hk257 : 257 ≤ k := by omega
    have hi1 : i + 1 ≤ 8 * l.length := by omega
    have hd1 : 8 * l.length - (i + 1) = d := by omega
    have hk1 : d + 300 < k := by omega
    have ho1 : out.length ≤ i + 1 := by omega
    have hcap : out.length < 140737488355328 := by omega
    clear hdr hbit hbt t1 t2 t3
    by_cases h30 : n + 1 > 30
    · have c30 : ((n + 1 : Nat) : Int) > 30 := Int.ofNat_lt.2 h30
      rw [su_high h30]
      exact if_pos c30
    · have c30 : ¬ ((n + 1 : Nat) : Int) > 30 := fun h => h30 (Int.ofNat_lt.1 h)
      rw [if_neg c30]
      cases hlk : lookC (((2 * acc + b : Nat) : Int), ((n + 1 : Nat) : Int)) with
      | none =>
        rw [su_none h30 hlk]
        refine bs (find (2 * acc + b) (n + 1) k none hlk hk257) ?_
        have hn1 : ¬ tgt none ≥ 0 := by decide
        rw [if_neg hn1]
        exact ih k (i + 1) (2 * acc + b) (n + 1) out hi1 hd1 hk1 e2 (Nat.le_of_not_lt h30) ho1
      | some j =>
        obtain ⟨hj, _⟩ := look_some hlk
        by_cases h256 : j = 256
        · rw [su_eos h30 hlk h256]
          refine bs (find (2 * acc + b) (n + 1) k (some j) hlk hk257) ?_
          have hn1 : ¬ tgt (some j) ≥ 0 := by rw [h256]; decide
          rw [if_neg hn1]
          exact ih k (i + 1) (2 * acc + b) (n + 1) out hi1 hd1 hk1 e2 (Nat.le_of_not_lt h30) ho1
        · rw [su_some h30 hlk h256]
          refine bs (find (2 * acc + b) (n + 1) k (some j) hlk hk257) ?_
          have ht : tgt (some j) = (j : Int) := if_neg h256
          have hj0 : (j : Int) ≥ 0 := Int.natCast_nonneg _
          have hj1 : ((j : Int)) % 256 = (j : Int) := Int.emod_eq_of_lt hj0 (by have := hj; omega)
          have ho2 : (out ++ [(j : Int)]).length ≤ i + 1 := by rw [List.length_append]; exact Nat.succ_le_succ ho
          rw [ht, if_pos hj0, if_pos hcap, hj1]
          exact ih k (i + 1) 0 0 (out ++ [(j : Int)]) hi1 hd1 hk1 (Nat.pow_pos (by decide)) (Nat.zero_le _) ho2
theorem spec_un (l : List Int) (hl : l.length ≤ 100000000) (hb : Bytes l) : ∀ k, 8 * l.length + 9000 ≤ k → spec_UnHuff.f k l = some (su (listBits l) 0 0 []) := by
  intro k hk
  unfold spec_UnHuff.f
  refine bs LibHc.lens ?_
  refine bs (LibHc.codes k (by omega)) ?_
  exact spec_l l hl hb (8 * l.length) k 0 0 0 [] (by omega) (by omega) (by omega) (by omega) (by omega) (by simp)
/-! The program's -/
theorem syms_str (js : List Nat) (h : ∀ j ∈ js, j < 256) : syms (strOfNums (toI js)) = js := by
  unfold syms
  rw [strOfNums_data]
  unfold toI
  rw [List.map_map, List.map_map]
  conv => rhs; rw [← List.map_id js]
  apply List.map_congr_left
  intro j hj
  have := h j hj
  simp
  omega
theorem bytesOf_inj : ∀ (a b : List Int), Bytes a → Bytes b → Lib.bytesOf a = Lib.bytesOf b → a = b
  | [], [], _, _, _ => rfl
  | [], _ :: _, _, _, h => by simp [Lib.bytesOf] at h
  | _ :: _, [], _, _, h => by simp [Lib.bytesOf] at h
  | x :: a, y :: b, ha, hb, h => by
    have hx := ha x (List.mem_cons_self ..)
    have hy := hb y (List.mem_cons_self ..)
    simp only [Lib.bytesOf, List.map_cons, List.cons.injEq] at h
    have e := bytesOf_inj a b (fun z hz => ha z (List.mem_cons_of_mem _ hz)) (fun z hz => hb z (List.mem_cons_of_mem _ hz)) h.2
    have e2 : x = y := by
      have h1 := congrArg UInt8.toNat h.1
      simp at h1
      omega
    rw [e, e2]
theorem cbs_len (js : List Nat) (h : ∀ j ∈ js, j < 256) : 5 * js.length ≤ (cbs js).length := by
  induction js with
  | nil => simp [cbs]
  | cons j js ih =>
    have hj := bnds (i := j) (by have := h j (List.mem_cons_self ..); omega)
    rw [cbs_cons, List.length_append, nb_len, List.length_cons]
    have := ih (fun x hx => h x (List.mem_cons_of_mem _ hx))
    omega
theorem both (l : List Int) (hl : l.length ≤ 100000000) (hb : Bytes l) : ∃ (K : Nat) (r : ByteArray × Bool) (js : List Nat) (rest : List Int), (∀ j ∈ js, j < 256) ∧ listBits l = cbs js ++ rest ∧ (r = (strOfNums (toI js), true) ∨ r = (⟨#[]⟩, false)) ∧ (r.2 = true → r.1 = strOfNums (toI js) ∧ rest = List.replicate rest.length 1 ∧ rest.length ≤ 7) ∧ (r.2 = true → ∀ k, K ≤ k → hf0 k r.1 lensI bitsI [] 0 0 0 = some l) ∧
    (∀ k, K ≤ k → spec_UnHuff.f k l = some r) ∧ (∀ k, K ≤ k → unF k l = some r) := by
  obtain ⟨js, rest, g1, g2, g3, g4⟩ := dec (listBits l) 0 0 [] (listBits_bit l hb) (by omega) (by omega)
  rw [List.nil_append] at g2
  simp only [nb, List.nil_append] at g3 g4
  have h0 : ((0 : Nat) : Int) = 0 := rfl
  rw [h0] at g2
  have hjl := cbs_len js g1
  have hll := listBits_len l
  have hlen := congrArg List.length g3
  rw [List.length_append, hll] at hlen
  obtain ⟨K, r, p, f1, f2, f3, f4, f5⟩ := huff_bits (strOfNums (toI js)) (by rw [strOfNums_size]; simp [toI]; omega) [] (by intro x hx; cases hx) (by simp)
  rw [syms_str js g1] at f3
  simp only [listBits, List.nil_append] at f3
  have hsp := spec_un l hl hb
  have hun : ∀ k, K ≤ k → unF k l = some (if (Lib.bytesOf r == Lib.bytesOf l) = true then (strOfNums (toI js), true) else (⟨#[]⟩, false)) := by
    intro k hk
    unfold unF
    rw [if_pos (by omega), g2]
    exact bs (f5 k hk) rfl
  rcases g4 with ⟨h1, h2, h3⟩ | ⟨h1, h2⟩
  · refine ⟨K + 8 * l.length + 9000, (strOfNums (toI js), true), js, rest, g1, g3, .inl rfl, fun _ => ⟨rfl, h1, h2⟩, fun _ k hk => ?_, fun k hk => ?_, fun k hk => ?_⟩
    · have hrl := listBits_len r
      have hrlen := congrArg List.length f3
      rw [List.length_append, List.length_replicate, hrl] at hrlen
      have hp : p = rest.length := by omega
      have : r = l := listBits_inj r l f2 hb (by rw [f3, hp, ← h1, ← g3])
      rw [← this]
      exact f5 k (by omega)
    · rw [hsp k (by omega)]; exact congrArg some h3
    · have hrl := listBits_len r
      have hrlen := congrArg List.length f3
      rw [List.length_append, List.length_replicate, hrl] at hrlen
      have hp : p = rest.length := by omega
      have : r = l := listBits_inj r l f2 hb (by rw [f3, hp, ← h1, ← g3])
      rw [hun k (by omega), this, if_pos (by simp)]
  · refine ⟨K + 8 * l.length + 9000, (⟨#[]⟩, false), js, rest, g1, g3, .inr rfl, (fun h => by cases h), (fun h => by cases h), fun k hk => ?_, fun k hk => ?_⟩
    · rw [hsp k (by omega), h2]
    · rw [hun k (by omega), if_neg]
      intro he
      have hrl : r = l := bytesOf_inj r l f2 hb (by simpa using he)
      rw [hrl, g3] at f3
      have e := List.append_cancel_left f3
      exact h1 ⟨by rw [e]; simp, by rw [e, List.length_replicate]; omega⟩
/-- The way back. -/
theorem back (s : ByteArray) (hs : s.size ≤ 10000000) : ∃ (K : Nat) (r : List Int), Bytes r ∧ (r.length : Int) = hlen s ∧ (∀ k, K ≤ k → hf0 k s lensI bitsI [] 0 0 0 = some r) ∧ (∀ k, K ≤ k → unF k r = some (s, true)) := by
  obtain ⟨K, r, p, f1, f2, f3, f4, f5⟩ := huff_bits s (by omega) [] (by intro x hx; cases hx) (by simp)
  simp only [listBits, List.nil_append] at f3
  have hu : uh (listBits r) 0 0 [] = toI (syms s) := by rw [f3]; exact uh_huff (syms s) (syms_lt s) p f1
  have hst : strOfNums (toI (syms s)) = s := by
    apply bytes_ext
    rw [strOfNums_data]
    unfold toI syms
    rw [List.map_map, List.map_map]
    conv => rhs; rw [← List.map_id s.data.toList]
    apply List.map_congr_left
    intro b _
    simp
  have hrl := listBits_len r
  have hrlen := congrArg List.length f3
  rw [List.length_append, List.length_replicate, hrl] at hrlen
  have hh := hlen_bits s (by omega)
  refine ⟨K, r, f2, by rw [hh]; omega, f5, fun k hk => ?_⟩
  unfold unF
  have hsl := f4
  simp at hsl
  rw [if_pos (by omega), hu, hst]
  refine bs (f5 k hk) ?_
  rw [if_pos (by simp)]
end Go.Proofs.YthflimnpiglgbaaDoor.LibUx
