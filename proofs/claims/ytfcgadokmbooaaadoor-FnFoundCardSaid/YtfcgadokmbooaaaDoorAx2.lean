/- Written by a program of this session, out of the translation: functions as plain Lean functions, and that the machine's calls answer as they do. Condition: none beyond each theorem's own. -/
import Derived.Test.YtfcgadokmbooaaaDoorAx0
namespace Go.Proofs.YtfcgadokmbooaaaDoor.A
open Go.RowKit Go.Proofs.YtfcgadokmbooaaaDoorW.PrintWords Go.Proofs.YtfcgadokmbooaaaDoorW.PrintLast Go.Proofs.YtfcgadokmbooaaaDoorW.PrintMore
attribute [local go_sem] max2_int min2_int max_two min_two max_three min_three max_four min_four   -- for this text's walks alone
set_option linter.unusedVariables false
set_option linter.unusedSimpArgs false

/-! ### impl_inRange: function 31 -/
def impl_inRange.f (a0 : Int) (a1 : Int) (a2 : Int) : Option (Bool) := if a0 ≥ a1 then (some (decide (a0 ≤ a2))) else (some false)
set_option maxHeartbeats 8000000 in
set_option maxRecDepth 100000 in
theorem impl_inRange.calls (a0 : Int) (a1 : Int) (a2 : Int) (r : Bool) (w : World) (h : impl_inRange.f a0 a1 a2 = some r) :
  Calls Tryd.prog 31 #[.int .i64 a0, .int .i64 a1, .int .i64 a2] w fun e w' => e = .returned (.bool r) ∧ Drawn0 w w' := by
 have H : (if a0 ≥ a1 then (some (decide (a0 ≤ a2))) else (some false)) = some r := h
 clear h
 by_cases c4 : a0 ≥ a1
 ·
  rw [if_pos c4] at H
  have c4b0 : decide (a1 ≤ a0) = true := decide_eq_true c4
  clear c4
  obtain rfl := Option.some.inj H
  go_enter Tryd.func31, Tryd.ntmps31
  go_wp2
  go_ret
  exact ⟨by first | rfl | (simp; done) | (simp [*]; done), by repeat (first | exact Drawn0.refl _ | apply Drawn0.step)⟩
 ·
  rw [if_neg c4] at H
  have c4b0 : decide (a1 ≤ a0) = false := decide_eq_false c4
  clear c4
  obtain rfl := Option.some.inj H
  go_enter Tryd.func31, Tryd.ntmps31
  go_wp2
  go_ret
  exact ⟨by first | rfl | (simp; done) | (simp [*]; done), by repeat (first | exact Drawn0.refl _ | apply Drawn0.step)⟩

-- NOT PRINTED: function 68 (utf8_RuneCountInString)

-- NOT PRINTED: function 76 (utf8_decodeRuneInStringSlow)

-- NOT PRINTED: function 69 (utf8_DecodeRuneInString)

-- NOT PRINTED: function 62 (strings_explode)

-- NOT PRINTED: function 77 (bytealg_IndexByteString)

-- NOT PRINTED: function 71 (stringslite_IndexByte)

-- NOT PRINTED: function 72 (bytealg_IndexString)

-- NOT PRINTED: function 73 (bytealg_Cutover)

-- NOT PRINTED: function 78 (bytealg_hashStr_string)

-- NOT PRINTED: function 74 (bytealg_IndexRabinKarp_string)

-- NOT PRINTED: function 65 (stringslite_Index)

-- NOT PRINTED: function 64 (strings_Index)

-- NOT PRINTED: function 70 (bytealg_CountString)

-- NOT PRINTED: function 63 (strings_Count)

-- NOT PRINTED: function 57 (strings_genSplit)

/-! ### strings_Split: function 46 (by hand: the shelf's contract) -/
/-- What the library's own variables hold. -/
def TB (w : World) : Prop := (∃ m, w.cell? ⟨Tryd.laysM145_ren.g 1, 0, none⟩ = some (.int .i64 m))
theorem tb_below {w w' : World} (h : TB w) (hb : Below w.heap.size w w') : TB w' := by
 have h1 := h
 unfold TB at h1 ⊢
 obtain ⟨m, hm⟩ := h1
 exact ⟨m, (hb.cell (World.block_lt_of_cell? w _ hm)).trans hm⟩
def strings_Split.f (a0 a1 : ByteArray) : Option (List ByteArray) := if (a0.size < 4294967281 ∧ 1 ≤ a1.size) ∧ Lib.countB a0 a1 + 1 ≤ maxLen ∧ (Lib.splitB a1 0 (Lib.countB a0 a1) a0).length = Lib.countB a0 a1 + 1 then some (Lib.splitB a1 0 (Lib.countB a0 a1) a0) else none
theorem strings_Split.calls (a0 a1 : ByteArray) (r : List ByteArray) (w : World) (ht : TB w) (A : strings_Split.f a0 a1 = some r) : Calls Tryd.prog 46 #[.string a0, .string a1] w fun e w' => ∃ v0_ : Value, e = .returned v0_ ∧ Kd.R Kd.string 9 w' w.heap.size (fun _ => True) v0_ r ∧ Below w.heap.size w w' := by
 unfold strings_Split.f at A
 by_cases h : (a0.size < 4294967281 ∧ 1 ≤ a1.size) ∧ Lib.countB a0 a1 + 1 ≤ maxLen ∧ (Lib.splitB a1 0 (Lib.countB a0 a1) a0).length = Lib.countB a0 a1 + 1
 ·
  rw [if_pos h] at A
  obtain rfl := Option.some.inj A
  obtain ⟨m, hm⟩ := ht
  refine (Tryd.strings_Split a0 a1 m w h.1.1 hm h.1.2).mono ?_
  rintro e w' ⟨rfl, rfl⟩
  have ho := World.ownsRow_lit (base := w.heap.size) (e := 9) (size := 1) w (((Lib.splitB a1 0 (Lib.countB a0 a1) a0).map Value.string).toArray) (Lib.countB a0 a1 + 1) (Nat.le_refl _) h.2.1 (by simp [h.2.2])
  refine ⟨_, rfl, Kd.R_of_own (enc := Value.string) (by rw [h.2.2]; exact ho) (by intro k _; simp), (Below.refl _ w).alloc (Nat.le_refl _) _⟩
 ·
  rw [if_neg h] at A
  cases A

-- NOT PRINTED: function 58 (stringslite_Cut)

/-! ### strings_Cut: function 47 (by hand: the shelf's contract) -/
def strings_Cut.f (a0 a1 : ByteArray) : Option (ByteArray × ByteArray × Bool) := if a0.size < 4294967281 then some (⟨(Lib.cut a0.data.toList a1.data.toList).1.toArray⟩, ⟨(Lib.cut a0.data.toList a1.data.toList).2.1.toArray⟩, (Lib.cut a0.data.toList a1.data.toList).2.2) else none
theorem strings_Cut.calls (a0 a1 : ByteArray) (r1 r2 : ByteArray) (r3 : Bool) (w : World) (ht : TB w) (A : strings_Cut.f a0 a1 = some (r1, r2, r3)) : Calls Tryd.prog 47 #[.string a0, .string a1] w fun e w' => e = .returned (.tuple #[.string r1, .string r2, .bool r3]) ∧ Drawn0 w w' := by
 unfold strings_Cut.f at A
 by_cases h : a0.size < 4294967281
 ·
  rw [if_pos h] at A
  cases A
  obtain ⟨m, hm⟩ := ht
  refine (Tryd.strings_Cut a0 a1 m w h hm).mono ?_
  rintro e w' ⟨rfl, n, rfl⟩
  exact ⟨rfl, ⟨⟨n, rfl⟩⟩⟩
 ·
  rw [if_neg h] at A
  cases A

end Go.Proofs.YtfcgadokmbooaaaDoor.A
