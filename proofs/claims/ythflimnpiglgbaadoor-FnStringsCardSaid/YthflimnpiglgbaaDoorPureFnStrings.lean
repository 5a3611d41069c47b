/- For every input: FnStrings answers true: a drawn text comes back of its bytes, with what is behind it left; it takes no more than itself and its length. No condition. -/
import Derived.Test.YthflimnpiglgbaaDoorLibZ4
import Derived.Test.YthflimnpiglgbaaDoorAx6
import Derived.Test.YthflimnpiglgbaaDoorAx18
import Derived.Test.YthflimnpiglgbaaDoorAx35
import Derived.Test.YthflimnpiglgbaaDoorAx36
import Derived.Test.YthflimnpiglgbaaDoorAx37
import Derived.Test.YthflimnpiglgbaaDoorAx38
set_option linter.unusedVariables false
set_option linter.unusedSimpArgs false
namespace Go.Proofs.YthflimnpiglgbaaDoor.Pure
open Go.RowKit Go.Proofs.YthflimnpiglgbaaDoor.A Go.Proofs.YthflimnpiglgbaaDoorW.PrintWords Go.Proofs.YthflimnpiglgbaaDoorW.PrintLast Go.Proofs.YthflimnpiglgbaaDoorW.PrintMore Go.Proofs.YthflimnpiglgbaaDoor.LibU
theorem draw (l : List Int) (hl : l.length ≤ 140737488351232) : ∃ K b s, (∀ k, K ≤ k → spec_DrawPutString.f k l = some (b, s)) ∧ LibHb.Bytes b ∧ b.length ≤ 9 ∧ s.size ≤ 200 := by
  obtain ⟨K, q, h1, h2⟩ := LibD.l1New l hl
  obtain ⟨K3, m, i3, q3, m1, m2, m3, m4⟩ := LibD.l1Some l 0 q h2
  obtain ⟨s, i1, q1, g1, g2, g3⟩ := LibDs.l3Some l i3 q3 m4
  refine ⟨K + K3 + 10, m, s, fun k hk => ?_, m2, m3, g2⟩
  unfold spec_DrawPutString.f
  refine bs (h1 k (by omega)) ?_
  refine bs (m1 k (by omega)) ?_
  refine bs (g1 k (by omega)) ?_
  rfl
theorem cut_mid (a b c : List Int) (n : Nat) (hn : n = b.length) : ((a ++ b ++ c).take (a.length + n)).drop a.length = b := by
  subst hn
  have e : a.length + b.length = (a ++ b).length := by simp
  rw [e, List.take_left, List.drop_left]
theorem j0_plain (k : Nat) (p body : List Int) (a n next : Int) (hn : 0 ≤ n ∧ n ≤ 4000) (hnx : 0 ≤ next ∧ next + n ≤ p.length) (hp : p.length ≤ 1048576) (ha : 0 ≤ a ∧ a < p.length)
    (hcut : (p.take (next + n).toNat).drop next.toNat = body) (hc : rd p a < 128) : impl_GetString.j0 (k + 1) p a n next false = some (strOfNums body, next + n, true) := by
  have hw : wrap64 (next + n) = next + n := w64 (by omega) (by omega)
  simp only [impl_GetString.j0]
  rw [if_neg (by decide), if_pos (by omega), hw, if_pos (by omega), if_pos (by omega)]
  refine bs rfl ?_
  rw [if_pos (by omega), if_pos (by omega), if_pos hc, hcut]
theorem j0_huff (k : Nat) (p body : List Int) (a n next : Int) (s : ByteArray) (hs : (s.size : Int) ≤ 4000) (hn : 0 ≤ n ∧ n ≤ 4000) (hnx : 0 ≤ next ∧ next + n ≤ p.length) (hp : p.length ≤ 1048576) (ha : 0 ≤ a ∧ a < p.length)
    (hcut : (p.take (next + n).toNat).drop next.toNat = body) (hc : ¬ rd p a < 128) (hu : impl_UnHuff.f k body = some (s, true)) : impl_GetString.j0 (k + 1) p a n next false = some (s, next + n, true) := by
  have hw : wrap64 (next + n) = next + n := w64 (by omega) (by omega)
  have h4 : ¬ (s.size : Int) > 4000 := by omega
  have key : (if (s, true).2 = true then (if ((s, true).1.size : Int) > 4000 then (some ((⟨#[]⟩ : ByteArray), (0 : Int), false)) else (some ((s, true).1, next + n, true))) else (some ((⟨#[]⟩ : ByteArray), (0 : Int), false))) = some (s, next + n, true) := by
    rw [if_pos rfl, if_neg h4]
  simp only [impl_GetString.j0]
  rw [if_neg (by decide), if_pos (by omega), hw, if_pos (by omega), if_pos (by omega)]
  refine bs rfl ?_
  rw [if_pos (by omega), if_pos (by omega), if_neg hc, hcut]
  refine bs hu ?_
  exact key
theorem f_at (k : Nat) (p : List Int) (a : Int) (n next : Int) (r : ByteArray × Int × Bool) (h1 : impl_GetPrefix.f k p a 7 = some (n, next, true)) (hn : 0 ≤ n ∧ n ≤ 4000) (hnx : 0 ≤ next ∧ next + n ≤ p.length) (hp : p.length ≤ 1048576)
    (hj : impl_GetString.j0 k p a n next false = some r) : impl_GetString.f k p a = some r := by
  have hw1 : wrap64 ((p.length : Int) - next) = (p.length : Int) - next := w64 (by omega) (by omega)
  have c1 : ¬ n > 4000 := by omega
  have c2 : ¬ n > (p.length : Int) - next := by omega
  unfold impl_GetString.f
  refine bs h1 ?_
  rw [if_pos rfl, if_neg c1, hw1, decide_eq_false c2]
  exact hj
theorem str_back (s : ByteArray) : strOfNums (bytesOf s) = s := by
  apply LibLens.bytes_ext
  rw [strOfNums_data]
  unfold bytesOf
  rw [List.map_map]
  conv => rhs; rw [← List.map_id s.data.toList]
  apply List.map_congr_left
  intro b _
  simp
/-- What is read where a number, and a text behind it, were put. -/
theorem read (b : List Int) (s : ByteArray) (hb : b.length ≤ 9) (hs : s.size ≤ 200) (f n : Nat) (hf : f ≤ 255) (hn : n ≤ 200) (body : List Int) (hbody : body.length = n) (K : Nat)
    (hdec : (f / 128 = 0 ∧ body = bytesOf s) ∨ (f / 128 = 1 ∧ ∀ k, K ≤ k → LibWrap2.unF k body = some (s, true))) :
    ∀ k, K + 20 ≤ k → impl_GetString.f k (b ++ LibP.pfxTail 7 n f ++ body ++ [1, 2]) (b.length : Int) = some (s, ((b ++ LibP.pfxTail 7 n f ++ body).length : Int), true) := by
  intro k hk
  have hpl := LibP.pfxTail_length 7 n f (by omega)
  obtain ⟨r1, _, v, hv, hv2, hv3⟩ := LibGP.roundtrip (l := b) (r := body ++ [1, 2]) (b := 7) (f := f) (n := n) (by omega) hf (by omega) (by simp; omega)
  have e0 : b ++ LibP.pfxTail 7 n f ++ body ++ [1, 2] = b ++ LibP.pfxTail 7 n f ++ (body ++ [1, 2]) := by simp
  have e7 : (2 : Nat) ^ 7 = 128 := by decide
  rw [e7] at hv3
  obtain ⟨p, hp⟩ : ∃ p, p = b ++ LibP.pfxTail 7 n f ++ (body ++ [1, 2]) := ⟨_, rfl⟩
  obtain ⟨L, hL⟩ : ∃ L, L = (LibP.pfxTail 7 n f).length := ⟨_, rfl⟩
  have hpl2 : p.length = b.length + L + n + 2 := by rw [hp, hL]; simp; omega
  have hL2 : L ≤ 5 ∧ 1 ≤ L := by rw [hL]; exact hpl
  have hfirst : rd p (b.length : Int) = (v : Int) := by
    rw [hp, rd_nat, List.append_assoc, ← hv2]
    have := LibGP.getD_app_right b (LibP.pfxTail 7 n f ++ (body ++ [1, 2])) 0
    rw [Nat.add_zero] at this
    rw [this]
    cases hq : LibP.pfxTail 7 n f with
    | nil => rw [hq] at hpl; simp at hpl
    | cons y t => rfl
  have hcut : (p.take (b.length + L + n)).drop (b.length + L) = body := by
    rw [hp, hL]
    have := cut_mid (b ++ LibP.pfxTail 7 n f) body [1, 2] n hbody.symm
    rw [List.length_append] at this
    rw [← List.append_assoc]
    exact this
  have hcut' : (p.take (((b.length + L : Nat) : Int) + (n : Int)).toNat).drop ((b.length + L : Nat) : Int).toNat = body := by
    have e1 : (((b.length + L : Nat) : Int) + (n : Int)).toNat = b.length + L + n := by omega
    rw [e1, Int.toNat_natCast]
    exact hcut
  have hend : ((b ++ LibP.pfxTail 7 n f ++ body).length : Int) = ((b.length + L : Nat) : Int) + (n : Int) := by
    rw [List.length_append, List.length_append, hbody, ← hL]
    omega
  rw [e0, ← hp, hend]
  rw [← hp, ← hL] at r1
  obtain ⟨k, rfl⟩ := ix (show 0 < k by omega)
  have b1 : 0 ≤ (n : Int) ∧ (n : Int) ≤ 4000 := by clear hdec hv3; omega
  have b2 : 0 ≤ ((b.length + L : Nat) : Int) ∧ ((b.length + L : Nat) : Int) + (n : Int) ≤ (p.length : Int) := by clear hdec hv3; omega
  have b3 : p.length ≤ 1048576 := by clear hdec hv3; omega
  have b4 : 0 ≤ (b.length : Int) ∧ (b.length : Int) < (p.length : Int) := by clear hdec hv3; omega
  refine f_at (k + 1) p _ (n : Int) _ _ (r1 (k + 1) (by clear hdec hv3; omega)) b1 b2 b3 ?_
  rcases hdec with ⟨hd, hbs⟩ | ⟨hd, hun⟩
  · have c3 : rd p (b.length : Int) < 128 := by rw [hfirst]; omega
    have q := j0_plain k p body (b.length : Int) (n : Int) ((b.length + L : Nat) : Int) b1 b2 b3 b4 hcut' c3
    rw [hbs, str_back] at q
    exact q
  · have c3 : ¬ rd p (b.length : Int) < 128 := by rw [hfirst]; omega
    exact j0_huff k p body (b.length : Int) (n : Int) ((b.length + L : Nat) : Int) s (by clear hd hv3; omega) b1 b2 b3 b4 hcut' c3 (hun k (by clear hd hv3; omega))
theorem FnStrings : laws_FnStrings.Pure := by
  intro l _ hl hw
  by_cases hbig : (l.length : Int) > 1048576
  · refine ⟨0, ?_⟩
    unfold laws_FnStrings.f
    refine bs (show laws_big.f l = some true from by unfold laws_big.f; rw [decide_eq_true hbig]) ?_
    rw [if_pos rfl]
  obtain ⟨K0, b, s, h0, hb, hbl, hsl⟩ := draw l (by omega)
  obtain ⟨K1, r, h1, h2, hr, hcase⟩ := LibPt.ps b s (by omega) hb (by omega)
  have hbs := bytesOf_length s
  have hget : ∀ k, K1 + 20 ≤ k → impl_GetString.f k (r ++ [1, 2]) (b.length : Int) = some (s, (r.length : Int), true) := by
    intro k hk
    rcases hcase with ⟨r0, hr0, hrl, hun⟩ | hr0
    · rw [hr0]
      exact read b s hbl hsl 128 r0.length (by omega) (by omega) r0 rfl K1 (.inr ⟨by decide, hun⟩) k hk
    · rw [hr0]
      exact read b s hbl hsl 0 s.size (by omega) (by omega) (bytesOf s) hbs K1 (.inl ⟨by decide, rfl⟩) k hk
  refine ⟨K0 + K1 + 20, ?_⟩
  unfold laws_FnStrings.f
  refine bs (show laws_big.f l = some false from by unfold laws_big.f; rw [decide_eq_false hbig]) ?_
  rw [if_neg (by decide)]
  refine bs (h0 _ (by omega)) ?_
  refine bs (LibPt.impl_ps (show b.length ≤ 1048576 by omega) (h2 _ (by omega))) ?_
  refine bs rfl ?_
  rw [if_pos (by simp; omega)]
  refine bs rfl ?_
  refine bs rfl ?_
  rw [if_pos (by simp; omega), List.nil_append]
  refine bs (hget _ (by omega)) ?_
  have c : (r.length : Int) ≤ wrap64 (wrap64 ((b.length : Int) + (s.size : Int)) + 5) := by
    rw [w64 (x := (b.length : Int) + (s.size : Int)) (by omega) (by omega), w64 (by omega) (by omega)]
    omega
  show (if true = true then (if s.toList = s.toList then (if (r.length : Int) = (r.length : Int) then _ else _) else _) else _) = _
  rw [if_pos rfl, if_pos rfl, if_pos rfl, decide_eq_true c]
end Go.Proofs.YthflimnpiglgbaaDoor.Pure
