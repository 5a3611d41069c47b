/- CodeLen, CodeOf, HuffLen, Huff, UnHuff: what the calls answer. Condition: the library's own variable is there, and each theorem's own. -/
import Derived.Test.YthflimnpiglgbaaDoorLibHuffB
import Derived.Test.YthflimnpiglgbaaDoorLibUnH
set_option linter.unusedVariables false
set_option linter.unusedSimpArgs false
namespace Go.Proofs.YthflimnpiglgbaaDoor.LibWrap
open Go Go.RowKit Go.Maps Go.Proofs.YthflimnpiglgbaaDoorW.PrintWords Go.Proofs.YthflimnpiglgbaaDoorW.PrintLast Go.Proofs.YthflimnpiglgbaaDoorW.PrintMore Go.Proofs.YthflimnpiglgbaaDoor.LibLens Go.Proofs.YthflimnpiglgbaaDoor.LibCodes Go.Proofs.YthflimnpiglgbaaDoor.LibHuff Go.Proofs.YthflimnpiglgbaaDoor.LibHuffB Go.Proofs.YthflimnpiglgbaaDoor.LibMap Go.Proofs.YthflimnpiglgbaaDoor.LibUnH Go.Proofs.YthflimnpiglgbaaDoor.A
theorem inR (a b c : Int) (w : World) : Calls Tryd.prog 40 #[.int .i64 a, .int .i64 b, .int .i64 c] w fun e w' => e = .returned (.bool (decide (b ≤ a ∧ a ≤ c))) ∧ w = w' := by
  by_cases h : b ≤ a
  · by_cases h2 : a ≤ c
    · have e : decide (b ≤ a ∧ a ≤ c) = true := decide_eq_true ⟨h, h2⟩
      rw [e]
      have h1' : decide (b ≤ a) = true := decide_eq_true h
      have h2' : decide (a ≤ c) = true := decide_eq_true h2
      clear e
      go_enter Tryd.func40, Tryd.ntmps40
      go_wp2
      go_ret
      exact ⟨rfl, rfl⟩
    · have e : decide (b ≤ a ∧ a ≤ c) = false := decide_eq_false (fun hh => h2 hh.2)
      rw [e]
      have h1' : decide (b ≤ a) = true := decide_eq_true h
      have h2' : decide (a ≤ c) = false := decide_eq_false h2
      clear e
      go_enter Tryd.func40, Tryd.ntmps40
      go_wp2
      go_ret
      exact ⟨rfl, rfl⟩
  · have e : decide (b ≤ a ∧ a ≤ c) = false := decide_eq_false (fun hh => h hh.1)
    rw [e]
    have h1' : decide (b ≤ a) = false := decide_eq_false h
    clear e
    go_enter Tryd.func40, Tryd.ntmps40
    go_wp2
    go_ret
    exact ⟨rfl, rfl⟩
def codeLenF (n : Int) : Int := if 0 ≤ n ∧ n ≤ 256 then rd lensI n else 0
def codeOfF (n : Int) : Int := if 0 ≤ n ∧ n ≤ 256 then rd bitsI n else 0
set_option maxHeartbeats 1600000 in
set_option maxRecDepth 100000 in
theorem codeLen_calls (n : Int) (w : World) (hm : ∃ m, w.cell? ⟨2, 0, none⟩ = some (.int .i64 m)) :
    Calls Tryd.prog 15 #[.int .i64 n] w fun e w' => e = .returned (.int .i64 (codeLenF n)) ∧ Below w.heap.size w w' := by
  obtain ⟨m, hm⟩ := hm
  have HM := Aside0.mk hm
  clear hm
  by_cases h : 0 ≤ n ∧ n ≤ 256
  · have e : codeLenF n = rd lensI n := if_pos h
    have E := Aside0.mk e
    have hd : decide (0 ≤ n ∧ n ≤ 256) = true := decide_eq_true h
    have HD := Aside0.mk hd
    have h0 : decide (n < 257) = true := decide_eq_true (by omega)
    have h1 : decide (0 ≤ n) = true := decide_eq_true h.1
    clear e hd
    obtain ⟨h2, h3⟩ := h
    go_enter Tryd.func15, Tryd.ntmps15
    go_wp2_with (first | (go_at_call 40; (with_reducible refine (inR _ _ _ _).mono ?_); rintro e w' ⟨rfl, rfl⟩; rw [HD.out]) | (go_at_call 41; (with_reducible refine (codesOf_calls m _ HM).mono ?_); rintro e w1 ⟨g, rfl, hg, hA, hB⟩; obtain ⟨hc0, hc1⟩ := code_cells hA n (by omega); have HB := Aside0.mk hB; clear hA hB hg))
    go_ret
    exact ⟨by rw [E.out]; rfl, HB.out⟩
  · have e : codeLenF n = 0 := if_neg h
    have E := Aside0.mk e
    have hd : decide (0 ≤ n ∧ n ≤ 256) = false := decide_eq_false h
    have HD := Aside0.mk hd
    clear e hd h
    go_enter Tryd.func15, Tryd.ntmps15
    go_wp2_with (go_at_call 40; (with_reducible refine (inR _ _ _ _).mono ?_); rintro e w' ⟨rfl, rfl⟩; rw [HD.out])
    go_ret
    exact ⟨by rw [E.out]; rfl, Below.refl _ _⟩
set_option maxHeartbeats 1600000 in
set_option maxRecDepth 100000 in
theorem codeOf_calls (n : Int) (w : World) (hm : ∃ m, w.cell? ⟨2, 0, none⟩ = some (.int .i64 m)) :
    Calls Tryd.prog 19 #[.int .i64 n] w fun e w' => e = .returned (.int .i64 (codeOfF n)) ∧ Below w.heap.size w w' := by
  obtain ⟨m, hm⟩ := hm
  have HM := Aside0.mk hm
  clear hm
  by_cases h : 0 ≤ n ∧ n ≤ 256
  · have e : codeOfF n = rd bitsI n := if_pos h
    have E := Aside0.mk e
    have hd : decide (0 ≤ n ∧ n ≤ 256) = true := decide_eq_true h
    have HD := Aside0.mk hd
    have h0 : decide (n < 257) = true := decide_eq_true (by omega)
    have h1 : decide (0 ≤ n) = true := decide_eq_true h.1
    clear e hd
    obtain ⟨h2, h3⟩ := h
    go_enter Tryd.func19, Tryd.ntmps19
    go_wp2_with (first | (go_at_call 40; (with_reducible refine (inR _ _ _ _).mono ?_); rintro e w' ⟨rfl, rfl⟩; rw [HD.out]) | (go_at_call 41; (with_reducible refine (codesOf_calls m _ HM).mono ?_); rintro e w1 ⟨g, rfl, hg, hA, hB⟩; obtain ⟨hc0, hc1⟩ := code_cells hA n (by omega); have HB := Aside0.mk hB; clear hA hB hg))
    go_ret
    exact ⟨by rw [E.out]; rfl, HB.out⟩
  · have e : codeOfF n = 0 := if_neg h
    have E := Aside0.mk e
    have hd : decide (0 ≤ n ∧ n ≤ 256) = false := decide_eq_false h
    have HD := Aside0.mk hd
    clear e hd h
    go_enter Tryd.func19, Tryd.ntmps19
    go_wp2_with (go_at_call 40; (with_reducible refine (inR _ _ _ _).mono ?_); rintro e w' ⟨rfl, rfl⟩; rw [HD.out])
    go_ret
    exact ⟨by rw [E.out]; rfl, Below.refl _ _⟩
set_option maxHeartbeats 1600000 in
set_option maxRecDepth 100000 in
theorem HuffLen_calls (s : ByteArray) (w : World) (hm : ∃ m, w.cell? ⟨2, 0, none⟩ = some (.int .i64 m)) (hs : s.size ≤ 140737488355328) :
    Calls Tryd.prog 17 #[.string s] w fun e w' => e = .returned (.int .i64 (hlen s)) ∧ Below w.heap.size w w' := by
  obtain ⟨m, hm⟩ := hm
  have HM := Aside0.mk hm
  have HS := Aside0.mk hs
  clear hm hs
  go_enter Tryd.func17, Tryd.ntmps17
  go_wp2_with (first | (go_at_call 41; (with_reducible refine (codesOf_calls m _ HM).mono ?_); rintro e w1 ⟨g, rfl, hg, hA, hB⟩; have HA := Aside0.mk hA; have HB := Aside0.mk hB; clear hA hB hg) | (go_at_call 42; (with_reducible refine (huffLen_calls _ _ _ HA.out HS.out).mono ?_); rintro e w2 ⟨rfl, ⟨nd, rfl⟩⟩))
  go_ret
  exact ⟨rfl, pw_below_drewN HB.out _⟩
set_option maxHeartbeats 1600000 in
set_option maxRecDepth 100000 in
theorem Huff_calls (k : Nat) (s : ByteArray) (r : List Int) (w : World) (hm : ∃ m, w.cell? ⟨2, 0, none⟩ = some (.int .i64 m)) (h : hf0 k s lensI bitsI [] 0 0 0 = some r) :
    Calls Tryd.prog 23 #[.string s] w fun e w' => ∃ v0_ : Value, e = .returned (v0_) ∧ Kd.R (Kd.int .u8) 5 w' w.heap.size (fun _ => True) v0_ r ∧ Below w.heap.size w w' := by
  obtain ⟨m, hm⟩ := hm
  have HM := Aside0.mk hm
  have HH := Aside0.mk h
  clear hm h
  go_enter Tryd.func23, Tryd.ntmps23
  go_wp2_with (first | (go_at_call 41; (with_reducible refine (codesOf_calls m _ HM).mono ?_); rintro e w1 ⟨g, rfl, hg, hA, hB⟩; have HA := Aside0.mk hA; have HB := Aside0.mk hB; clear hA hB hg) | (go_at_call 44; (with_reducible refine (huff_calls k _ (fun _ => False) _ [] s r w _ HB.out HA.out (Kd.R_nil _ _ _ _ _) HH.out).mono ?_); rintro e w2 ⟨v, rfl, hR, hB2, hK2⟩; have HR := Aside0.mk hR; have HB2 := Aside0.mk hB2; clear hR hB2 hK2))
  go_ret
  exact ⟨_, rfl, Kd.R_mono HR.out (fun _ _ => trivial), HB2.out⟩
end Go.Proofs.YthflimnpiglgbaaDoor.LibWrap
