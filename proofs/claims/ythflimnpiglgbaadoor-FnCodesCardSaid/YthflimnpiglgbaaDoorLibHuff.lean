/- huffLen and huff, over a block that holds the codes: what the calls answer. Condition: each theorem's own. -/
import Derived.Test.YthflimnpiglgbaaDoorLibCodes
import Derived.Test.YthflimnpiglgbaaDoorAx0
set_option linter.unusedVariables false
set_option linter.unusedSimpArgs false
namespace Go.Proofs.YthflimnpiglgbaaDoor.LibHuff
open Go Go.RowKit Go.Proofs.YthflimnpiglgbaaDoorW.PrintWords Go.Proofs.YthflimnpiglgbaaDoorW.PrintLast Go.Proofs.YthflimnpiglgbaaDoorW.PrintMore Go.Proofs.YthflimnpiglgbaaDoor.LibLens Go.Proofs.YthflimnpiglgbaaDoor.LibCodes Go.Proofs.YthflimnpiglgbaaDoor.A
attribute [local go_sem] max2_int min2_int max_two min_two max_three min_three max_four min_four
def lensI : List Int := codes.map (fun p => p.2)
def bitsI : List Int := codes.map (fun p => p.1)
theorem lensI_len : lensI.length = 257 := by unfold lensI; rw [List.length_map, codes_len]
theorem bitsI_len : bitsI.length = 257 := by unfold bitsI; rw [List.length_map, codes_len]
theorem lensI_at (i : Int) (h : i.toNat < 257) : rd lensI i = (codes.getD i.toNat (0, 0)).2 := by
  have hl := codes_len
  simp [rd, lensI, List.getD_eq_getElem?_getD, List.getElem?_eq_getElem (show i.toNat < codes.length by omega)]
theorem bitsI_at (i : Int) (h : i.toNat < 257) : rd bitsI i = (codes.getD i.toNat (0, 0)).1 := by
  have hl := codes_len
  simp [rd, bitsI, List.getD_eq_getElem?_getD, List.getElem?_eq_getElem (show i.toNat < codes.length by omega)]
theorem code_cells {w : World} {g : Nat} (h : Arr 62 w g codes) (i : Int) (h1 : i.toNat < 257) :
    w.cell? ⟨g, i.toNat * 2, none⟩ = some (.int .i64 (rd bitsI i)) ∧ w.cell? ⟨g, i.toNat * 2 + 1, none⟩ = some (.int .i64 (rd lensI i)) := by
  have hl := codes_len
  rw [lensI_at i h1, bitsI_at i h1]
  exact ⟨h.bits _ (by omega), h.size _ (by omega)⟩
/-- The sum of the lengths of the first bytes' codes. -/
def hsum (s : ByteArray) : Nat → Int
  | 0 => 0
  | k + 1 => wrap64 (hsum s k + rd lensI (bt s k))
def hlen (s : ByteArray) : Int := wrap64 (Int.tdiv (wrap64 (hsum s s.size + 7)) 8)
set_option maxHeartbeats 1600000 in
set_option maxRecDepth 100000 in
theorem huffLen_calls (g : Nat) (s : ByteArray) (w : World) (hA : Arr 62 w g codes) (hs : s.size ≤ 140737488355328) :
    Calls Tryd.prog 42 #[.pointer (some ⟨g, 0, none⟩), .string s] w fun e w' => e = .returned (.int .i64 (hlen s)) ∧ Drawn0 w w' := by
  have HA := Aside0.mk hA
  have HD := Aside0.mk (Drawn0.refl w)
  clear hA
  go_enter Tryd.func42, Tryd.ntmps42
  go_wp2
  go_loopw [5, 6] (fun v5 v6 wr => ∃ k : Nat, k ≤ s.size ∧ v6 = .int .i64 k ∧ v5 = .int .i64 (hsum s k) ∧ Aside0 (Arr 62 wr g codes) ∧ Aside0 (Drawn0 w wr)) (fun _ v6 _ => s.size - (intOf v6).toNat)
  case atStart => exact ⟨0, by omega, rfl, rfl, HA, HD⟩
  case round =>
    clear HA HD
    obtain ⟨k, hk, rfl, rfl, HA, HD⟩ := hrel
    by_cases hlt : k < s.size
    · have hb := bt_range s (k : Int)
      have hx : ((s[k]'hlt).toNat : Int) = bt s (k : Int) := bt_at s (k : Int) hlt
      obtain ⟨x, hxx⟩ : ∃ x, x = bt s (k : Int) := ⟨_, rfl⟩
      rw [← hxx] at hb hx
      have hs1 : hsum s (k + 1) = wrap64 (hsum s k + rd lensI x) := by rw [hxx]; rfl
      have HS1 := Aside0.mk hs1
      clear hs1 hxx
      obtain ⟨hc0, hc1⟩ := code_cells HA.out x (by omega)
      have hb1 : decide (x < 257) = true := decide_eq_true (by omega)
      go_wp2
      go_quiet (fail)
      go_wp2
      go_roundw
      case rel => exact ⟨k + 1, by omega, by go_num, by rw [HS1.out], ⟨by (with_reducible repeat (first | apply Arr.drewN | apply Arr.drew)); exact HA.out⟩, ⟨by exact HD.out.step _⟩⟩
      case measure => simp [intOf]; omega
    · obtain rfl : k = s.size := by omega
      go_wp2
      go_ret
      exact ⟨rfl, HD.out⟩
end Go.Proofs.YthflimnpiglgbaaDoor.LibHuff
