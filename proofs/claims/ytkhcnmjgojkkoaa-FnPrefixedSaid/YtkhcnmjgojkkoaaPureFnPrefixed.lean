/- For every input: FnPrefixed answers true: a drawn number comes back of its prefixed bytes, whatever stands in the upper bits; cut it does not. No condition. -/
import Derived.Test.YtkhcnmjgojkkoaaLibGP
import Derived.Test.YtkhcnmjgojkkoaaLibD2
import Derived.Test.YtkhcnmjgojkkoaaAx23
import Derived.Test.YtkhcnmjgojkkoaaAx27
import Derived.Test.YtkhcnmjgojkkoaaAx29
set_option linter.unusedVariables false
set_option linter.unusedSimpArgs false
namespace Go.Proofs.Ytkhcnmjgojkkoaa.Pure
open Go.RowKit Go.Proofs.Ytkhcnmjgojkkoaa.A Go.Proofs.YtkhcnmjgojkkoaaW.PrintWords Go.Proofs.YtkhcnmjgojkkoaaW.PrintLast Go.Proofs.YtkhcnmjgojkkoaaW.PrintMore Go.Proofs.Ytkhcnmjgojkkoaa.LibU Go.Proofs.Ytkhcnmjgojkkoaa.LibD Go.Proofs.Ytkhcnmjgojkkoaa.LibP Go.Proofs.Ytkhcnmjgojkkoaa.LibGP
theorem drawPutPrefix (l : List Int) (hl : l.length ≤ 1048576) : ∃ K b bits first n, (∀ k, K ≤ k → spec_DrawPutPrefix.f k l = some (b, bits, first, n)) ∧ b.length ≤ 9 ∧ bits ∈ [(1 : Int), 4, 5, 6, 7, 8, 0, 9] ∧ first ∈ [(0 : Int), 64, 128, 255, (-1), 256, 16] ∧ -1 ≤ n ∧ n ≤ 16777217 := by
  obtain ⟨K1, q, e1, hi⟩ := l1New l (by omega)
  obtain ⟨K2, b, i2, q2, e2, hb, hblen, hi2⟩ := l1Some l 0 q hi
  obtain ⟨bits, i3, q3, e3, h3, hi3⟩ := l1Int l i2 q2 [1, 4, 5, 6, 7, 8, 0, 9] (by decide) hi2
  obtain ⟨first, i4, q4, e4, h4, hi4⟩ := l1Int l i3 q3 [0, 64, 128, 255, (-1), 256, 16] (by decide) hi3
  obtain ⟨x, i5, q5, e5, h5, h5', _, hi5⟩ := l1Below l i4 q4 100000 (by omega) hi4
  have hx := h5' (by omega)
  obtain ⟨n, i6, q6, e6, h6, hi6⟩ := l1Int l i5 q5 [0, 1, 30, 31, 32, 126, 127, 128, 1337, 16777216, 16777217, (-1), x] (by simp) hi5
  have hn : n = 0 ∨ n = 1 ∨ n = 30 ∨ n = 31 ∨ n = 32 ∨ n = 126 ∨ n = 127 ∨ n = 128 ∨ n = 1337 ∨ n = 16777216 ∨ n = 16777217 ∨ n = -1 ∨ n = x := by simpa using h6
  refine ⟨K1 + K2, b, bits, first, n, fun k hk => ?_, hblen, h3, h4, by omega, by omega⟩
  unfold spec_DrawPutPrefix.f
  exact bs (e1 k (by omega)) (bs (e2 k (by omega)) (bs e3 (bs e4 (bs e5 (bs e6 rfl)))))
theorem FnPrefixed : laws_FnPrefixed.Pure := by
  intro l _ hl2 hw
  have hbig : laws_big.f l = some (decide ((l.length : Int) > 1048576)) := rfl
  by_cases h : (l.length : Int) > 1048576
  · refine ⟨0, ?_⟩
    unfold laws_FnPrefixed.f
    refine bs hbig ?_
    rw [if_pos (decide_eq_true h)]
  obtain ⟨K, b, bits, first, n, hd, hbl, hbits, hfirst, hn0, hn1⟩ := drawPutPrefix l (by omega)
  have hbits' : bits = 1 ∨ bits = 4 ∨ bits = 5 ∨ bits = 6 ∨ bits = 7 ∨ bits = 8 ∨ bits = 0 ∨ bits = 9 := by simpa using hbits
  have hfirst' : first = 0 ∨ first = 64 ∨ first = 128 ∨ first = 255 ∨ first = -1 ∨ first = 256 ∨ first = 16 := by simpa using hfirst
  have hp := impl_PutPrefix (l := b) (b := bits) (first := first) (n := n) (by omega)
  have hpl := putPrefix_length b bits first n
  refine ⟨K + 16 + 1 + 1 + 1, ?_⟩
  unfold laws_FnPrefixed.f
  refine bs hbig ?_
  rw [if_neg (by simpa using h)]
  refine bs (hd _ (by omega)) (bs (hp _ (by omega)) ?_)
  simp only
  have hj : ∀ t : Bool, (t = true ↔ first > 255) → (if bits < 1 then laws_FnPrefixed.j0 (K + 16 + 1 + 1 + 1) b bits first n (putPrefix b bits first n) true else (if bits > 8 then laws_FnPrefixed.j0 (K + 16 + 1 + 1 + 1) b bits first n (putPrefix b bits first n) true else (if first < 0 then laws_FnPrefixed.j0 (K + 16 + 1 + 1 + 1) b bits first n (putPrefix b bits first n) true else laws_FnPrefixed.j0 (K + 16 + 1 + 1 + 1) b bits first n (putPrefix b bits first n) t))) = some true := by
    intro t ht
    by_cases hr : (1 ≤ bits ∧ bits ≤ 8) ∧ (0 ≤ first ∧ first ≤ 255)
    · rw [if_neg (by omega), if_neg (by omega), if_neg (by omega)]
      have htf : t = false := by
        cases t with
        | false => rfl
        | true => have := ht.1 rfl; omega
      subst htf
      have e0 : putPrefix b bits first n = b ++ pfxTail bits.toNat (clampN n) first := by unfold putPrefix; rw [if_pos hr]
      rw [e0] at hpl ⊢
      obtain ⟨bn, rfl⟩ := Int.eq_ofNat_of_zero_le (show 0 ≤ bits by omega)
      obtain ⟨fn, rfl⟩ := Int.eq_ofNat_of_zero_le (show 0 ≤ first by omega)
      have hb8 : 1 ≤ bn ∧ bn ≤ 8 := by omega
      rw [Int.toNat_natCast] at hpl ⊢
      have hc := clampN_le n
      have htl := pfxTail_length bn (clampN n) (fn : Int) hc
      obtain ⟨r1, r2, v, hv1, hv2, hv3⟩ := roundtrip (l := b) (r := []) (b := bn) (f := fn) (n := clampN n) hb8 (by omega) hc (by simp; omega)
      simp only [List.append_nil] at r1
      have j2 : laws_FnPrefixed.j2 (K + 16 + 1) b (bn : Int) (fn : Int) ((clampN n : Nat) : Int) (b ++ pfxTail bn (clampN n) (fn : Int)) = some true := by
        rw [laws_FnPrefixed.j2]
        refine bs (r1 _ (by omega)) ?_
        have hlen : (b ++ pfxTail bn (clampN n) (fn : Int)).length = b.length + (pfxTail bn (clampN n) (fn : Int)).length := List.length_append
        rw [w64 (x := ((b ++ pfxTail bn (clampN n) (fn : Int)).length : Int) - 1) (by omega) (by omega), if_pos (by omega), if_pos (by omega)]
        have hne : pfxTail bn (clampN n) (fn : Int) ≠ [] := by intro e; rw [e] at htl; simp at htl
        have htake : (b ++ pfxTail bn (clampN n) (fn : Int)).take (((b ++ pfxTail bn (clampN n) (fn : Int)).length : Int) - 1).toNat = b ++ (pfxTail bn (clampN n) (fn : Int)).dropLast := by
          have e1 : (((b ++ pfxTail bn (clampN n) (fn : Int)).length : Int) - 1).toNat = b.length + ((pfxTail bn (clampN n) (fn : Int)).length - 1) := by omega
          rw [e1, List.take_length_add_append, List.dropLast_eq_take]
        rw [htake]
        refine bs (r2 _ (by omega)) ?_
        simp only
        rw [if_pos trivial, if_pos trivial, if_pos (by omega), if_neg (by decide), if_pos (by omega), if_pos (by omega), if_pos (u64_nn _)]
        have hrd : rd (b ++ pfxTail bn (clampN n) (fn : Int)) (b.length : Int) = (v : Int) := by
          rw [rd_nat]
          have := getD_app_right b (pfxTail bn (clampN n) (fn : Int)) 0
          rw [Nat.add_zero] at this
          rw [this, hv2]
        have hu : IntKind.u64.wrap (bn : Int) = (bn : Int) := by
          unfold IntKind.wrap
          simp only [IntKind.signed, IntKind.bits, Bool.false_and, Bool.false_eq_true, if_false]
          omega
        rw [hrd, w64 (x := (v : Int)) (by omega) (by omega), hu]
        have hs : ∀ x : Nat, shr .i64 (x : Int) (bn : Int) = ((x / 2 ^ bn : Nat) : Int) := by
          intro x
          unfold shr
          have e2 : min (bn : Int).toNat IntKind.i64.bits = bn := by simp only [IntKind.bits, Int.toNat_natCast]; omega
          have e3 : ((2 : Int) ^ bn) = ((2 ^ bn : Nat) : Int) := by push_cast; rfl
          rw [e2, e3]
          exact (Int.natCast_ediv _ _).symm
        rw [hs, hs, hv3]
        simp
      rw [laws_FnPrefixed.j0, if_neg (by decide)]
      by_cases c1 : n > 16777216
      · rw [if_pos c1, laws_FnPrefixed.j1, if_neg (by omega)]
        have e : clampN n = 16777216 := by unfold clampN mx mn; repeat' split
                                           all_goals omega
        rw [e] at j2 ⊢
        exact j2
      · rw [if_neg c1, laws_FnPrefixed.j1]
        by_cases c2 : n < 0
        · rw [if_pos c2]
          have e : clampN n = 0 := by unfold clampN mx mn; repeat' split
                                      all_goals omega
          rw [e] at j2 ⊢
          exact j2
        · rw [if_neg c2]
          have e : n = (clampN n : Int) := by unfold clampN mx mn; repeat' split
                                              all_goals omega
          rw [← e] at j2
          exact j2
    · have e0 : putPrefix b bits first n = b := by unfold putPrefix; rw [if_neg hr]
      rw [e0]
      have hj0 : laws_FnPrefixed.j0 (K + 16 + 1 + 1 + 1) b bits first n b true = some true := by
        rw [laws_FnPrefixed.j0, if_pos rfl]
        simp
      by_cases c1 : bits < 1
      · rw [if_pos c1]; exact hj0
      · rw [if_neg c1]
        by_cases c2 : bits > 8
        · rw [if_pos c2]; exact hj0
        · rw [if_neg c2]
          by_cases c3 : first < 0
          · rw [if_pos c3]; exact hj0
          · rw [if_neg c3, ht.2 (by omega)]; exact hj0
  exact hj _ (by simp)
end Go.Proofs.Ytkhcnmjgojkkoaa.Pure
