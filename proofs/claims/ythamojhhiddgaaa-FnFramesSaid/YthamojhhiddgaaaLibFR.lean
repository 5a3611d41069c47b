/- A frame's bytes: what PutFrame writes, and that GetFrame reads it back, or says that more is needed. Condition: each theorem's own bounds. -/
import Derived.Test.YthamojhhiddgaaaLibF9
import Derived.Test.YthamojhhiddgaaaLibB
import Derived.Test.YthamojhhiddgaaaLibGF
import Derived.Test.YthamojhhiddgaaaAx10
import Derived.Test.YthamojhhiddgaaaAx11
set_option linter.unusedVariables false
set_option linter.unusedSimpArgs false
namespace Go.Proofs.Ythamojhhiddgaaa.LibFR
open Go.RowKit Go.Proofs.Ythamojhhiddgaaa.A Go.Proofs.YthamojhhiddgaaaW.PrintWords Go.Proofs.YthamojhhiddgaaaW.PrintLast Go.Proofs.YthamojhhiddgaaaW.PrintMore Go.Proofs.Ythamojhhiddgaaa.LibU Go.Proofs.Ythamojhhiddgaaa.LibF0 Go.Proofs.Ythamojhhiddgaaa.LibB Go.Proofs.Ythamojhhiddgaaa.LibG Go.Proofs.Ythamojhhiddgaaa.LibGF Go.Proofs.Ythamojhhiddgaaa.LibBits
theorem gb_at (a ys c : List Int) (hb : BytesL ys) (hl : 1 ≤ ys.length ∧ ys.length ≤ 4) : gb (a ++ (ys ++ c)) (a.length : Int) (ys.length : Int) = (val 0 ys, true) := by
  unfold gb
  have hlen : (a ++ (ys ++ c)).length = a.length + (ys.length + c.length) := by simp
  rw [if_pos (by unfold gbOk; omega)]
  have e1 : ((a.length : Int) + (ys.length : Int)).toNat = a.length + ys.length := by omega
  rw [e1, Int.toNat_natCast, List.take_length_add_append, List.drop_left, List.take_left]
  have h256 : ((0 : Int) + 1) * 256 ^ ys.length ≤ 72057594037927936 := by
    obtain ⟨h1, h2⟩ := hl
    have : ys.length = 1 ∨ ys.length = 2 ∨ ys.length = 3 ∨ ys.length = 4 := by omega
    rcases this with e | e | e | e <;> rw [e] <;> decide
  rw [gbFold_eq ys 0 hb (by omega) h256]
theorem rd_at (p q : List Int) (x : Int) : rd (p ++ x :: q) (p.length : Int) = x := by
  rw [rd_nat]; simp [List.getD_eq_getElem?_getD]
theorem pb3 (n : Int) : pb n 3 = [(n / 65536) % 256, (n / 256) % 256, n % 256] := by
  simp [pb]
theorem pb4 (n : Int) : pb n 4 = [(n / 16777216) % 256, (n / 65536) % 256, (n / 256) % 256, n % 256] := by
  simp [pb]
theorem pb3_bytes (n : Int) : BytesL (pb n 3) := by rw [pb3]; intro x hx; simp at hx; omega
theorem pb4_bytes (n : Int) : BytesL (pb n 4) := by rw [pb4]; intro x hx; simp at hx; omega
theorem val3 (n : Int) : val 0 (pb n 3) = n % 16777216 := by
  rw [pb3]; simp only [val, List.foldl_cons, List.foldl_nil]; omega
theorem val4 (n : Int) : val 0 (pb n 4) = n % 4294967296 := by
  rw [pb4]; simp only [val, List.foldl_cons, List.foldl_nil]; omega
def enc (a b c : Int) (l : List Int) : List Int := pb (l.length : Int) 3 ++ (a % 256 :: b % 256 :: (pb c 4 ++ l))
theorem enc_length (a b c : Int) (l : List Int) : (enc a b c l).length = 9 + l.length := by
  unfold enc; simp only [List.length_append, List.length_cons, pb_length]; omega
theorem enc_bytes (a b c : Int) (l : List Int) (h : BytesL l) : BytesL (enc a b c l) := by
  intro x hx
  unfold enc at hx
  simp only [List.mem_append, List.mem_cons] at hx
  rcases hx with hx | hx | hx | hx | hx
  · exact pb3_bytes _ x hx
  · omega
  · omega
  · exact pb4_bytes _ x hx
  · exact h x hx
theorem impl_put {a b c : Int} {l : List Int} (h : okF a b c l) : ∀ k, 12 ≤ k → impl_PutFrame.f k a b c l = some (enc a b c l) := by
  intro k hk
  have hl : l.length ≤ 1000 := h.2.2.2
  have g1 := putBig_length [] (l.length : Int) 3
  have g2 := putBig_length (putBig [] (l.length : Int) 3 ++ [a % 256, b % 256]) c 4
  simp only [List.length_append, List.length_cons, List.length_nil] at g1 g2
  have e1 : putBig (putBig [] (l.length : Int) 3 ++ [a % 256, b % 256]) c 4 ++ l = enc a b c l := by
    unfold putBig enc
    rw [if_pos (by omega), if_pos (by omega), if_neg (by omega), if_neg (show ¬ c < 0 from by have := h.2.2.1; omega)]
    simp
  unfold impl_PutFrame.f impl_putFrame.f
  refine bs (impl_frameOk a b c l) ?_
  rw [if_pos (by simpa using h)]
  refine bs (bs (impl_putBig_l (by simp) (by omega) k hk) ?_) rfl
  simp only [Option.bind_some]
  rw [if_pos (by simp only [List.length_cons, List.length_nil]; omega)]
  refine bs (impl_putBig_l (by simp only [List.length_append, List.length_cons, List.length_nil]; omega) (by omega) k hk) ?_
  rw [if_pos (by omega), e1]
theorem impl_put_no {a b c : Int} {l : List Int} (h : ¬ okF a b c l) : ∀ k, impl_PutFrame.f k a b c l = some [] := by
  intro k
  unfold impl_PutFrame.f
  refine bs (impl_frameOk a b c l) ?_
  rw [if_neg (by simpa using h)]
theorem gf_ok {a b c : Int} {l : List Int} (h : okF a b c l) (pre post : List Int) (hp : pre.length ≤ 1000000000) : gf (pre ++ (enc a b c l ++ post)) (pre.length : Int) = (a, b, c, l, (pre.length : Int) + 9 + l.length, 0) := by
  obtain ⟨ha, hb, hc, hl⟩ := h
  have el := enc_length a b c l
  have eL : (pre ++ (enc a b c l ++ post)).length = pre.length + (9 + l.length + post.length) := by simp only [List.length_append, el]
  have s1 : pre ++ (enc a b c l ++ post) = pre ++ (pb (l.length : Int) 3 ++ (a % 256 :: b % 256 :: (pb c 4 ++ (l ++ post)))) := by simp [enc]
  have s2 : pre ++ (enc a b c l ++ post) = (pre ++ pb (l.length : Int) 3) ++ (a % 256 :: (b % 256 :: (pb c 4 ++ (l ++ post)))) := by simp [enc]
  have s3 : pre ++ (enc a b c l ++ post) = (pre ++ (pb (l.length : Int) 3 ++ [a % 256])) ++ (b % 256 :: (pb c 4 ++ (l ++ post))) := by simp [enc]
  have s4 : pre ++ (enc a b c l ++ post) = (pre ++ (pb (l.length : Int) 3 ++ [a % 256, b % 256])) ++ (pb c 4 ++ (l ++ post)) := by simp [enc]
  have s5 : pre ++ (enc a b c l ++ post) = (pre ++ (pb (l.length : Int) 3 ++ (a % 256 :: b % 256 :: pb c 4))) ++ (l ++ post) := by simp [enc]
  have g3 := gb_at pre (pb (l.length : Int) 3) (a % 256 :: b % 256 :: (pb c 4 ++ (l ++ post))) (pb3_bytes _) (by rw [pb_length]; omega)
  have r3 := rd_at (pre ++ pb (l.length : Int) 3) (b % 256 :: (pb c 4 ++ (l ++ post))) (a % 256)
  have r4 := rd_at (pre ++ (pb (l.length : Int) 3 ++ [a % 256])) (pb c 4 ++ (l ++ post)) (b % 256)
  have g4 := gb_at (pre ++ (pb (l.length : Int) 3 ++ [a % 256, b % 256])) (pb c 4) (l ++ post) (pb4_bytes _) (by rw [pb_length]; omega)
  rw [← s1, val3, pb_length] at g3
  rw [← s2] at r3
  rw [← s3] at r4
  rw [← s4, val4, pb_length] at g4
  have n1 : ((pre ++ pb (l.length : Int) 3).length : Int) = (pre.length : Int) + 3 := by simp [pb_length]
  have n2 : ((pre ++ (pb (l.length : Int) 3 ++ [a % 256])).length : Int) = (pre.length : Int) + 4 := by simp [pb_length]
  have n3 : ((pre ++ (pb (l.length : Int) 3 ++ [a % 256, b % 256])).length : Int) = (pre.length : Int) + 5 := by simp [pb_length]
  have n4 : (pre ++ (pb (l.length : Int) 3 ++ (a % 256 :: b % 256 :: pb c 4))).length = pre.length + 9 := by simp [pb_length]
  rw [n1] at r3
  rw [n2] at r4
  rw [n3] at g4
  have hcut : ((pre ++ (enc a b c l ++ post)).take (pre.length + 9 + l.length)).drop (pre.length + 9) = l := by
    rw [s5, ← n4, List.take_length_add_append, List.drop_left, List.take_left]
  have g3' : gb (pre ++ (enc a b c l ++ post)) (pre.length : Int) 3 = ((l.length : Int), true) := by
    have : (l.length : Int) % 16777216 = l.length := by omega
    rw [← this]; exact g3
  have g4' : gb (pre ++ (enc a b c l ++ post)) ((pre.length : Int) + 5) 4 = (c, true) := by
    have e : c % 4294967296 = c := by omega
    rw [e] at g4
    exact g4
  have hm : Go.bits .and .i64 c 2147483647 = c := by
    have := i64_mask c 31 (by omega) (by omega) (by have e63 : (2 : Int) ^ 63 = 9223372036854775808 := by decide
                                                    rw [e63]; omega)
    rw [show (2 : Int) ^ 31 - 1 = 2147483647 by decide, show (2 : Int) ^ 31 = 2147483648 by decide] at this
    rw [this]; omega
  unfold gf
  rw [if_neg (by omega), g3', g4', r3, r4]
  simp only
  rw [if_neg (by omega), if_neg (by omega), w64 (by omega) (by omega), w64 (by omega) (by omega), hm]
  have e1 : ((pre.length : Int) + 9 + (l.length : Int)).toNat = pre.length + 9 + l.length := by omega
  have e2 : ((pre.length : Int) + 9).toNat = pre.length + 9 := by omega
  rw [e1, e2, hcut, show a % 256 = a by omega, show b % 256 = b by omega]
theorem gf_end (pre t : List Int) (ht : t.length < 9) : gf (pre ++ t) (pre.length : Int) = (0, 0, 0, [], (pre.length : Int), 1) := by
  unfold gf
  rw [if_pos (by rw [List.length_append]; omega)]
theorem gf_short {a b c : Int} {l : List Int} (h : okF a b c l) (pre post : List Int) (r : Nat) (hr : r < 9 + l.length) : gf (pre ++ (enc a b c l ++ post).take r) (pre.length : Int) = (0, 0, 0, [], (pre.length : Int), 1) := by
  obtain ⟨ha, hb, hc, hl⟩ := h
  have el := enc_length a b c l
  have es : ((enc a b c l ++ post).take r).length = r := by rw [List.length_take, List.length_append, el]; omega
  by_cases h9 : r < 9
  · exact gf_end pre _ (by omega)
  · have s1 : (enc a b c l ++ post).take r = pb (l.length : Int) 3 ++ ((a % 256 :: b % 256 :: (pb c 4 ++ (l ++ post))).take (r - 3)) := by
      have : enc a b c l ++ post = pb (l.length : Int) 3 ++ (a % 256 :: b % 256 :: (pb c 4 ++ (l ++ post))) := by simp [enc]
      rw [this, List.take_append, pb_length, List.take_of_length_le (by rw [pb_length]; omega)]
    have g3 := gb_at pre (pb (l.length : Int) 3) ((a % 256 :: b % 256 :: (pb c 4 ++ (l ++ post))).take (r - 3)) (pb3_bytes _) (by rw [pb_length]; omega)
    rw [← s1, val3, pb_length] at g3
    have g3' : gb (pre ++ (enc a b c l ++ post).take r) (pre.length : Int) 3 = ((l.length : Int), true) := by
      have : (l.length : Int) % 16777216 = l.length := by omega
      rw [← this]; exact g3
    unfold gf
    rw [g3']
    simp only
    rw [if_neg (by rw [List.length_append, es]; omega), if_neg (by omega), if_pos (by rw [List.length_append, es]; omega)]
end Go.Proofs.Ythamojhhiddgaaa.LibFR
