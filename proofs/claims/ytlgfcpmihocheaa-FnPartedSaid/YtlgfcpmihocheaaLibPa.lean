/- Part: what it hands back, frame by frame. Condition: each theorem's own bounds. -/
import Derived.Test.YtlgfcpmihocheaaLibU
import Derived.Test.YtlgfcpmihocheaaAx0
import Derived.Test.YtlgfcpmihocheaaAx5
set_option linter.unusedVariables false
set_option linter.unusedSimpArgs false
namespace Go.Proofs.Ytlgfcpmihocheaa.LibPa
open Go.RowKit Go.Proofs.Ytlgfcpmihocheaa.A Go.Proofs.YtlgfcpmihocheaaW.PrintWords Go.Proofs.YtlgfcpmihocheaaW.PrintLast Go.Proofs.Ytlgfcpmihocheaa.LibU
/-- Frame i of a block that is parted. -/
def fr1 (s fl : Int) (i : Nat) (b : List Int) : S59 := ⟨if i = 0 then 1 else 9, if i = 0 then fl else 0, s, b⟩
def fs (s fl : Int) (l : List Int) (m k : Nat) : List S59 := (List.range k).map (fun i => fr1 s fl i (impl_Part.ch l m i))
/-- All frames, the last one bearing the head's flag. -/
def all (s fl : Int) (l : List Int) (m t : Nat) : List S59 := fs s fl l m t ++ [⟨if t = 0 then 1 else 9, Go.bits .or .i64 (if t = 0 then fl else 0) 4, s, impl_Part.ch l m t⟩]
theorem fs_len (s fl : Int) (l : List Int) (m k : Nat) : (fs s fl l m k).length = k := by simp [fs]
theorem fs_succ (s fl : Int) (l : List Int) (m k : Nat) : fs s fl l m (k + 1) = fs s fl l m k ++ [fr1 s fl k (impl_Part.ch l m k)] := by simp [fs, List.range_succ]
theorem ch_len (l : List Int) (m k : Nat) : (impl_Part.ch l m k).length = min m (l.length - k * m) := by
  unfold impl_Part.ch
  rw [List.length_drop, List.length_take]
  omega
theorem getD_snoc {α : Type} (l : List α) (a z : α) (n : Nat) (h : n = l.length) : (l ++ [a]).getD n z = a := by subst h; simp
theorem set_snoc {α : Type} (l : List α) (a b : α) (n : Nat) (h : n = l.length) : (l ++ [a]).set n b = l ++ [b] := by subst h; simp
theorem goA (s fl : Int) (l : List Int) (m : Nat) (hm : 1 ≤ m) : ∀ k, k * m < l.length ∨ k = 0 → 0 < l.length → impl_Part.go s fl l m (List.range (k + 1)) = fs s fl l m (k + 1)
  | 0, _, hn => by
    simp only [impl_Part.go, Nat.zero_add, List.range_one, List.foldl_cons, List.foldl_nil, impl_Part.fr, fs, List.map_cons, List.map_nil]
    simp [fr1]
  | k + 1, h, hn => by
    have hk : (k + 1) * m < l.length := by rcases h with h | h
                                           · exact h
                                           · omega
    have hk2 : k * m < l.length := by have := Nat.add_mul k 1 m; omega
    have ih := goA s fl l m hm k (.inl hk2) hn
    have e : impl_Part.go s fl l m (List.range (k + 1 + 1)) = impl_Part.fr s (impl_Part.go s fl l m (List.range (k + 1))) (impl_Part.ch l m (k + 1)) := by
      unfold impl_Part.go
      rw [List.range_succ (n := k + 1), List.foldl_append]
      rfl
    rw [e, ih, fs_succ s fl l m (k + 1)]
    have hlast : (fs s fl l m (k + 1)).getD ((fs s fl l m (k + 1)).length - 1) z59 = fr1 s fl k (impl_Part.ch l m k) := by
      rw [fs_succ]
      exact getD_snoc _ _ _ _ (by simp)
    unfold impl_Part.fr
    rw [hlast, if_pos (by show 0 < (impl_Part.ch l m k).length; rw [ch_len]; omega)]
    simp [fr1]
theorem tiA (s fl : Int) (l : List Int) (m k : Nat) : impl_Part.ti (fs s fl l m (k + 1)) = all s fl l m k := by
  have hl : (fs s fl l m (k + 1)).length - 1 = (fs s fl l m k).length := by rw [fs_len, fs_len]; omega
  unfold impl_Part.ti impl_Part.fl all
  rw [hl, fs_succ, getD_snoc _ _ _ _ rfl, set_snoc _ _ _ _ rfl]
  rfl
theorem part_impl (a0 : Int) (a1 : Bool) (l : List Int) (a3 : Int) (hl : l.length ≤ 1048576) (hin : 1 ≤ a0 ∧ a0 ≤ 2147483647) : ∃ t m, 1 ≤ m ∧ m ≤ 1000 ∧ (t = 0 ∨ t * m < l.length) ∧ l.length ≤ t * m + m ∧ impl_Part.f a0 a1 l a3 = some (all a0 (if a1 then 1 else 0) l m t) := by
  have hm : 1 ≤ impl_Part.mo a3 ∧ impl_Part.mo a3 ≤ 1000 := by unfold impl_Part.mo; constructor <;> (repeat' split) <;> omega
  obtain ⟨m, hmm⟩ : ∃ m, m = impl_Part.mo a3 := ⟨_, rfl⟩
  rw [← hmm] at hm
  obtain ⟨t, ht1, ht2, ht3⟩ : ∃ t, (t = 0 ∨ t * m < l.length) ∧ l.length ≤ t * m + m ∧ impl_Part.go a0 (if a1 then 1 else 0) l m (List.range ((l.length + m - 1) / m)) = fs a0 (if a1 then 1 else 0) l m (t + 1) := by
    by_cases hz : l.length = 0
    · refine ⟨0, .inl rfl, by omega, ?_⟩
      rw [show (l.length + m - 1) / m = 0 from Nat.div_eq_of_lt (by omega)]
      obtain rfl : l = [] := List.eq_nil_of_length_eq_zero hz
      simp [impl_Part.go, fs, fr1, impl_Part.ch]
    · have hd := Nat.div_add_mod (l.length + m - 1) m
      have hr := Nat.mod_lt (l.length + m - 1) (show m > 0 by omega)
      obtain ⟨q, hq⟩ : ∃ q, q = (l.length + m - 1) / m := ⟨_, rfl⟩
      rw [← hq] at hd ⊢
      obtain ⟨t, rfl⟩ : ∃ t, q = t + 1 := by
        cases q with
        | zero => simp at hd; omega
        | succ t => exact ⟨t, rfl⟩
      have e : m * (t + 1) = t * m + m := by rw [Nat.mul_comm, Nat.add_mul, Nat.one_mul]
      rw [e] at hd
      exact ⟨t, .inr (by omega), by omega, goA _ _ _ _ hm.1 t (.inl (by omega)) (by omega)⟩
  refine ⟨t, m, hm.1, hm.2, ht1, ht2, ?_⟩
  unfold impl_Part.f
  rw [if_pos hin, if_pos (by omega), ← hmm, ht3, tiA]
end Go.Proofs.Ytlgfcpmihocheaa.LibPa
