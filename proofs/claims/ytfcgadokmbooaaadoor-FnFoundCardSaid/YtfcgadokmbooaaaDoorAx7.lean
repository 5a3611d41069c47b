/- Written by a program of this session, out of the translation: functions as plain Lean functions, and that the machine's calls answer as they do. Condition: none beyond each theorem's own. -/
import Derived.Test.YtfcgadokmbooaaaDoorAx0
namespace Go.Proofs.YtfcgadokmbooaaaDoor.A
open Go.RowKit Go.Proofs.YtfcgadokmbooaaaDoorW.PrintWords Go.Proofs.YtfcgadokmbooaaaDoorW.PrintLast Go.Proofs.YtfcgadokmbooaaaDoorW.PrintMore
attribute [local go_sem] max2_int min2_int max_two min_two max_three min_three max_four min_four   -- for this text's walks alone
set_option linter.unusedVariables false
set_option linter.unusedSimpArgs false

/-! ### impl_Field_48: function 48 (by hand: the shelf's contract) -/
/-- slices.Grow of a nil row: a row of no elements, in new memory, or nil. -/
def impl_Field_48.f (l0 : List S23) (a1 : Int) : Option (List S23) := if l0.length = 0 ∧ 0 ≤ a1 ∧ a1 ≤ 1099511627776 then some [] else none
set_option maxHeartbeats 8000000 in
set_option maxRecDepth 100000 in
theorem impl_Field_48.calls (A0 : Option Addr) (c0 : Nat) (l0 : List S23) (a1 : Int) (r : List S23) (w : World) (hr0 : Kd.C k23 w A0 l0.length l0) (hc0 : l0.length ≤ c0) (hz : A0 = none ∧ c0 = 0) (h : impl_Field_48.f l0 a1 = some r) : Calls Tryd.prog 48 #[.slice A0 l0.length c0, .int .i64 a1] w fun e w' => ∃ v0_ : Value, e = .returned v0_ ∧ Kd.R k23 23 w' w.heap.size (fun _ => True) v0_ r ∧ Below w.heap.size w w' := by
 obtain ⟨rfl, rfl⟩ := hz
 unfold impl_Field_48.f at h
 by_cases hh : l0.length = 0 ∧ 0 ≤ a1 ∧ a1 ≤ 1099511627776
 ·
  rw [if_pos hh] at h
  obtain rfl := Option.some.inj h
  obtain ⟨h1, h2, h3⟩ := hh
  rw [h1]
  clear hr0 hc0 h h1
  obtain ⟨n, rfl⟩ : ∃ n : Nat, a1 = (n : Int) := ⟨a1.toNat, by omega⟩
  have hw0 : wrap64 ((0 : Int) - 0) = 0 := by unfold wrap64; omega
  have hwn : wrap64 ((n : Int) - 0) = (n : Int) := by unfold wrap64; omega
  have c1 : ¬ ((n : Int) < 0) := by omega
  rcases Nat.eq_zero_or_pos n with hn | hn
  ·
   subst hn
   go_enter Tryd.func48, Tryd.ntmps48
   go_wp2
   go_ret
   exact ⟨_, rfl, Kd.R_nil _ _ _ _ _, Below.refl _ _⟩
  ·
   have c2 : ((n : Int) > 0) := by omega
   obtain ⟨i, hi, hz, hsz, hby⟩ := info_parts info23
   have happ := Lib.run_append_nil_zeros (P := Tryd.prog) w 33 3 33 23 i _ .i64 .i64 Tryd.underlying33 Tryd.underlying3 hi hz n hn (by rw [hsz]; omega) (by omega) (by rw [hby]; omega)
   generalize hcap : grownCap w n 0 23 = cap at happ
   have g1 : n ≤ cap := by rw [← hcap]; exact grownCap_ge w n 0 23
   have g2 : cap ≤ maxLen := by rw [← hcap]; exact grownCap_le_maxLen w n 0 23 (by unfold maxLen; omega)
   generalize hZ : (Builtin.zeroCells (Value.cells (.agg #[(.string ⟨#[]⟩), (.string ⟨#[]⟩)])) n ++ Builtin.zeroCells (Value.cells (.agg #[(.string ⟨#[]⟩), (.string ⟨#[]⟩)])) (cap - n)) = Z at happ
   have hZs : Z.size = cap * 2 := by rw [← hZ]; simp [size_zeroCells, Value.cells]; omega
   clear hcap hZ
   go_enter Tryd.func48, Tryd.ntmps48
   go_wp2_with (at_builtin; refine Lib.wpList_append_run _ rfl _ _ _ _ rfl _ _ rfl rfl _ _ happ ?_)
   go_ret
   refine ⟨_, rfl, ⟨fun k hk => trivial, [], ⟨rfl, .inr ⟨w.heap.size, cap, Z, rfl, Nat.le_refl _, heap_alloc_new _ _, Nat.zero_le _, g2, hZs, by simp⟩⟩, ⟨rfl, fun j p hj => by simp at hj⟩⟩, ?_⟩
   exact ((Below.refl w.heap.size w).drew).alloc (Nat.le_refl _) _
 ·
  rw [if_neg hh] at h
  cases h

end Go.Proofs.YtfcgadokmbooaaaDoor.A
