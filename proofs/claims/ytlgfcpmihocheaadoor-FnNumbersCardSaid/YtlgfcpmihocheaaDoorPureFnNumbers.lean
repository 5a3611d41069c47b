/- For every input: FnNumbers answers true: a drawn number of so many bytes comes back of them; a number comes back of its text. No condition. -/
import Derived.Test.YtlgfcpmihocheaaDoorLibNum
import Derived.Test.YtlgfcpmihocheaaDoorLibGv
import Derived.Test.YtlgfcpmihocheaaDoorLibB
import Derived.Test.YtlgfcpmihocheaaDoorLibD2
import Derived.Test.YtlgfcpmihocheaaDoorAx7
import Derived.Test.YtlgfcpmihocheaaDoorAx11
import Derived.Test.YtlgfcpmihocheaaDoorAx12
import Derived.Test.YtlgfcpmihocheaaDoorAx14
import Derived.Test.YtlgfcpmihocheaaDoorAx16
import Derived.Test.YtlgfcpmihocheaaDoorAx17
set_option linter.unusedVariables false
set_option linter.unusedSimpArgs false
namespace Go.Proofs.YtlgfcpmihocheaaDoor.Pure
open Go Go.RowKit Go.Proofs.YtlgfcpmihocheaaDoor.A Go.Proofs.YtlgfcpmihocheaaDoorW.PrintWords Go.Proofs.YtlgfcpmihocheaaDoorW.PrintLast Go.Proofs.YtlgfcpmihocheaaDoorW.PrintMore Go.Proofs.YtlgfcpmihocheaaDoor.LibU Go.Proofs.YtlgfcpmihocheaaDoor.LibTx Go.Proofs.YtlgfcpmihocheaaDoor.LibNum Go.Proofs.YtlgfcpmihocheaaDoor.LibG Go.Proofs.YtlgfcpmihocheaaDoor.LibB Go.Proofs.YtlgfcpmihocheaaDoor.LibD Go.Proofs.YtlgfcpmihocheaaDoor.LibBits
theorem gb_at (a ys c : List Int) (hb : BytesL ys) (hl : 1 ≤ ys.length ∧ ys.length ≤ 4) : gb (a ++ (ys ++ c)) (a.length : Int) (ys.length : Int) = (val 0 ys, true) := by
  unfold gb
  have hlen : (a ++ (ys ++ c)).length = a.length + (ys.length + c.length) := by simp
  rw [if_pos (by unfold gbOk; omega)]
  have e1 : ((a.length : Int) + (ys.length : Int)).toNat = a.length + ys.length := by omega
  rw [e1, Int.toNat_natCast, List.take_length_add_append, List.drop_left, List.take_left]
  have h256 : ((0 : Int) + 1) * 256 ^ ys.length ≤ 72057594037927936 := by
    obtain ⟨h1, h2⟩ := hl
    have : ys.length = 1 ∨ ys.length = 2 ∨ ys.length = 3 ∨ ys.length = 4 := by omega
    rcases this with e | e | e | e <;> rw [e] <;> decide
  rw [gbFold_eq ys 0 hb (by omega) h256]
theorem pb_val (n : Int) (k : Nat) (hk : k = 1 ∨ k = 2 ∨ k = 3 ∨ k = 4) : BytesL (pb n k) ∧ val 0 (pb n k) = n % 2 ^ (8 * k) := by
  rcases hk with rfl | rfl | rfl | rfl
  · have e : pb n 1 = [n % 256] := by simp [pb]
    rw [e]
    refine ⟨by intro x hx; simp at hx; omega, ?_⟩
    simp only [val, List.foldl_cons, List.foldl_nil]
    rw [show (2 : Int) ^ (8 * 1) = 256 by decide]; omega
  · have e : pb n 2 = [(n / 256) % 256, n % 256] := by simp [pb]
    rw [e]
    refine ⟨by intro x hx; simp at hx; omega, ?_⟩
    simp only [val, List.foldl_cons, List.foldl_nil]
    rw [show (2 : Int) ^ (8 * 2) = 65536 by decide]; omega
  · have e : pb n 3 = [(n / 65536) % 256, (n / 256) % 256, n % 256] := by simp [pb]
    rw [e]
    refine ⟨by intro x hx; simp at hx; omega, ?_⟩
    simp only [val, List.foldl_cons, List.foldl_nil]
    rw [show (2 : Int) ^ (8 * 3) = 16777216 by decide]; omega
  · have e : pb n 4 = [(n / 16777216) % 256, (n / 65536) % 256, (n / 256) % 256, n % 256] := by simp [pb]
    rw [e]
    refine ⟨by intro x hx; simp at hx; omega, ?_⟩
    simp only [val, List.foldl_cons, List.foldl_nil]
    rw [show (2 : Int) ^ (8 * 4) = 4294967296 by decide]; omega
theorem impl_PutBig (l : List Int) (n k : Int) (hl : l.length ≤ 1000000) : ∀ j, 12 ≤ j → impl_PutBig.f j l n k = some (putBig l n k) := by
  intro j hj
  have hc : slices_Clone_byte_byte.f l = some l := by
    unfold slices_Clone_byte_byte.f
    simp only [Option.bind_some, List.nil_append, List.length_nil, Nat.zero_add]
    rw [if_pos (by omega)]
  unfold impl_PutBig.f
  refine bs hc (bs (inRange k 1 8) ?_)
  by_cases h : 1 ≤ k ∧ k ≤ 8
  · rw [if_pos (by simpa using h)]
    exact bs (impl_putBig_l (by omega) h j hj) rfl
  · rw [if_neg (by simpa using h)]
    unfold putBig
    rw [if_neg h]
theorem dd (u : Nat) : (∀ d ∈ Lib.decDigits u, dig d) ∧ dval 0 (Lib.decDigits u) = u := by
  induction u using Nat.strongRecOn with
  | _ u ih =>
    by_cases h : u < 10
    · rw [Lib.decDigits_one h]
      have e : (UInt8.ofNat (48 + u)).toNat = 48 + u := by rw [UInt8.toNat_ofNat']; omega
      refine ⟨?_, ?_⟩
      · intro d hd
        rw [List.mem_singleton] at hd
        subst hd
        unfold dig
        rw [e]; omega
      · show 0 * 10 + ((UInt8.ofNat (48 + u)).toNat - 48) = u
        rw [e]; omega
    · have e : (UInt8.ofNat (48 + u % 10)).toNat = 48 + u % 10 := by rw [UInt8.toNat_ofNat']; omega
      obtain ⟨h1, h2⟩ := ih (u / 10) (by omega)
      have ed : Lib.decDigits u = Lib.decDigits (u / 10) ++ [UInt8.ofNat (48 + u % 10)] := by rw [Lib.decDigits, dif_neg h]
      rw [ed]
      refine ⟨?_, ?_⟩
      · intro d hd
        rcases List.mem_append.1 hd with hd | hd
        · exact h1 d hd
        · rw [List.mem_singleton] at hd
          subst hd
          unfold dig
          rw [e]; omega
      · rw [dval_snoc, h2, e]; omega
theorem num_text (m : Int) (h : 0 ≤ m ∧ m ≤ 1000000000) : num (text m) = (m, true) := by
  obtain ⟨u, rfl⟩ := Int.eq_ofNat_of_zero_le h.1
  have et : text (u : Int) = ⟨(Lib.decDigits u).toArray⟩ := by unfold text; rw [if_pos h, Int.toNat_natCast]
  have hn := nDigits_le u 10 (by omega) (by omega)
  have hp := decDigits_pos u
  have hs : (ByteArray.mk (Lib.decDigits u).toArray).size = Lib.nDigits u := by
    show (Lib.decDigits u).toArray.size = _
    rw [List.size_toArray, Lib.decDigits_length]
  rw [et]
  unfold num
  rw [if_pos (by rw [hs]; omega)]
  have hl : (ByteArray.mk (Lib.decDigits u).toArray).data.toList = Lib.decDigits u := rfl
  rw [hl, scan_all _ 0 (dd u).1, (dd u).2]
  simp only
  rw [if_neg (by omega), if_pos trivial]
theorem num_none (m : Int) (h : ¬ (0 ≤ m ∧ m ≤ 1000000000)) : text m = ⟨#[]⟩ ∧ num (text m) = (0, false) := by
  have et : text m = ⟨#[]⟩ := by unfold text; rw [if_neg h]
  refine ⟨et, ?_⟩
  rw [et]
  unfold num
  rw [if_neg (by show ¬ (1 ≤ (#[] : Array UInt8).size ∧ _); simp)]
theorem drawPutBig (l : List Int) (hl : l.length ≤ 1048576) : ∃ K b n k', (∀ k, K ≤ k → spec_DrawPutBig.f k l = some (b, n, k')) ∧ b.length ≤ 9 ∧ n ∈ [(0 : Int), 1, 255, 256, 65535, 16777216, 4294967295, (-1), 9223372036854775807] ∧ k' ∈ [(1 : Int), 2, 3, 4, 8, 0, 9, (-1)] := by
  obtain ⟨K1, q, e1, hi⟩ := l1New l (by omega)
  obtain ⟨K2, b, i2, q2, e2, hb, hblen, hi2⟩ := l1Some l 0 q hi
  obtain ⟨n, i3, q3, e3, h3, hi3⟩ := l1Int l i2 q2 [0, 1, 255, 256, 65535, 16777216, 4294967295, (-1), 9223372036854775807] (by decide) hi2
  obtain ⟨k', i4, q4, e4, h4, hi4⟩ := l1Int l i3 q3 [1, 2, 3, 4, 8, 0, 9, (-1)] (by decide) hi3
  refine ⟨K1 + K2, b, n, k', fun k hk => ?_, hblen, h3, h4⟩
  unfold spec_DrawPutBig.f
  exact bs (e1 k (by omega)) (bs (e2 k (by omega)) (bs e3 (bs e4 rfl)))
theorem drawText (l : List Int) (hl : l.length ≤ 1048576) : ∃ K m, ∀ k, K ≤ k → spec_DrawText.f k l = some m := by
  obtain ⟨K1, q, e1, hi⟩ := l1New l (by omega)
  obtain ⟨x, i2, q2, e2, _, _, _, hi2⟩ := l1Below l 0 q 100000 (by omega) hi
  obtain ⟨m, i3, q3, e3, _, hi3⟩ := l1Int l i2 q2 [0, 7, 10, 1000000000, 1000000001, (-1), x] (by simp) hi2
  refine ⟨K1, m, fun k hk => ?_⟩
  unfold spec_DrawText.f
  exact bs (e1 k (by omega)) (bs e2 (bs e3 rfl))
theorem FnNumbers : laws_FnNumbers.Pure := by
  intro l _ hl2 hw
  have hbig : laws_big.f l = some (decide ((l.length : Int) > 1048576)) := rfl
  by_cases h : (l.length : Int) > 1048576
  · refine ⟨0, ?_⟩
    unfold laws_FnNumbers.f
    refine bs hbig ?_
    rw [if_pos (decide_eq_true h)]
  obtain ⟨K1, b, n, k', hd, hbl, hn, hk'⟩ := drawPutBig l (by omega)
  obtain ⟨K2, m, ht⟩ := drawText l (by omega)
  have hn' : n = 0 ∨ n = 1 ∨ n = 255 ∨ n = 256 ∨ n = 65535 ∨ n = 16777216 ∨ n = 4294967295 ∨ n = -1 ∨ n = 9223372036854775807 := by simpa using hn
  have hkk : k' = 1 ∨ k' = 2 ∨ k' = 3 ∨ k' = 4 ∨ k' = 8 ∨ k' = 0 ∨ k' = 9 ∨ k' = -1 := by simpa using hk'
  have hpl := putBig_length b n k'
  -- what follows
  have hj : ∀ k, K2 + 20 ≤ k → laws_FnNumbers.j0 k l false = some true := by
    intro k hk
    obtain ⟨k, rfl⟩ := ix (show 0 < k by omega)
    rw [laws_FnNumbers.j0, if_neg (by decide)]
    have htl : (text m).size ≤ 1048576 := by
      by_cases c : 0 ≤ m ∧ m ≤ 1000000000
      · obtain ⟨u, rfl⟩ := Int.eq_ofNat_of_zero_le c.1
        have et : text (u : Int) = ⟨(Lib.decDigits u).toArray⟩ := by unfold text; rw [if_pos c, Int.toNat_natCast]
        have hnd := nDigits_le u 10 (by omega) (by omega)
        rw [et]
        show (Lib.decDigits u).toArray.size ≤ _
        rw [List.size_toArray, Lib.decDigits_length]; omega
      · rw [(num_none m c).1]; show (#[] : Array UInt8).size ≤ _; simp
    refine bs (ht k (by omega)) (bs (impl_text m) (bs (impl_number (text m) htl k (by omega)) ?_))
    by_cases c : 0 ≤ m ∧ m ≤ 1000000000
    · rw [num_text m c, if_neg (by omega), if_neg (by omega), if_pos rfl]
      simp
    · obtain ⟨c1, c2⟩ := num_none m c
      rw [c2, c1]
      by_cases c0 : m < 0
      · rw [if_pos c0, if_pos (by rw [ByteArray.toList_eq]), if_neg (by decide)]
      · rw [if_neg c0, if_pos (by omega), if_pos (by rw [ByteArray.toList_eq]), if_neg (by decide)]
  obtain ⟨K3, hg⟩ := impl_gb (l := putBig b n k') (a := (b.length : Int)) (b := k') (by omega) (by omega) (by omega)
  refine ⟨K1 + K2 + K3 + 40, ?_⟩
  have hjk := hj (K1 + K2 + K3 + 40) (by omega)
  unfold laws_FnNumbers.f
  refine bs hbig ?_
  rw [if_neg (by simpa using h)]
  refine bs (hd _ (by omega)) (bs (impl_PutBig b n k' (by omega) _ (by omega)) (bs (hg _ (by omega)) ?_))
  simp only
  have main : ∀ kk : Nat, (kk = 1 ∨ kk = 2 ∨ kk = 3 ∨ kk = 4) → k' = (kk : Int) → (gb (putBig b n k') (b.length : Int) k').2 = true ∧ ((putBig b n k').length : Int) = (b.length : Int) + k' ∧ (gb (putBig b n k') (b.length : Int) k').1 = (if n < 0 then 0 else n) % 2 ^ (8 * kk) := by
    intro kk h4 ek
    obtain ⟨p1, p2⟩ := pb_val (if n < 0 then 0 else n) kk h4
    have ep : putBig b n k' = b ++ (pb (if n < 0 then 0 else n) kk ++ []) := by
      unfold putBig
      rw [if_pos (by omega), ek, Int.toNat_natCast, List.append_nil]
    have g := gb_at b (pb (if n < 0 then 0 else n) kk) [] p1 (by rw [pb_length]; omega)
    rw [pb_length, p2] at g
    rw [ep, ek, g]
    refine ⟨rfl, ?_, rfl⟩
    rw [List.append_nil, List.length_append, pb_length]
    omega
  by_cases hr : k' = 1 ∨ k' = 2 ∨ k' = 3 ∨ k' = 4
  · obtain ⟨kk, h4, ek⟩ : ∃ kk : Nat, (kk = 1 ∨ kk = 2 ∨ kk = 3 ∨ kk = 4) ∧ k' = (kk : Int) := ⟨k'.toNat, by omega, by omega⟩
    obtain ⟨m1, m2, m3⟩ := main kk h4 ek
    rw [if_pos (by omega), if_pos (by omega), if_pos m1, w64 (by omega) (by omega), if_pos m2]
    have hmask : IntKind.u64.wrap (wrap64 (8 * k')) = ((8 * kk : Nat) : Int) ∧ wrap64 (shl .i64 1 ((8 * kk : Nat) : Int) - 1) = 2 ^ (8 * kk) - 1 := by
      rcases h4 with rfl | rfl | rfl | rfl <;> subst ek <;> decide +kernel
    by_cases c : n ≥ 0
    · rw [if_pos c, hmask.1, if_pos (by omega), hmask.2]
      have hmm : Go.bits .and .i64 n (2 ^ (8 * kk) - 1) = n % 2 ^ (8 * kk) := i64_mask n (8 * kk) (by omega) c (by
        have e63 : (2 : Int) ^ 63 = 9223372036854775808 := by decide
        rw [e63]; omega)
      rw [hmm, m3, if_neg (show ¬ n < 0 by omega), if_pos rfl, if_neg (by omega)]
      exact hjk
    · have hneg : n < 0 := by omega
      rw [if_neg c, if_pos hneg, m3, if_pos hneg]
      rw [Int.zero_emod]
      exact hjk
  · by_cases c1 : k' ≥ 1
    · rw [if_pos c1, if_neg (by omega)]
      exact hjk
    · rw [if_neg c1]
      exact hjk
end Go.Proofs.YtlgfcpmihocheaaDoor.Pure
