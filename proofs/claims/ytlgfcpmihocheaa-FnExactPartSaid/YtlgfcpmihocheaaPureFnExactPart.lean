/- For every input: FnExactPart answers true: the program's Part returns what the reference's returns, in memory of its own. No condition. -/
import Derived.Test.YtlgfcpmihocheaaLibE
import Derived.Test.YtlgfcpmihocheaaLibFk
import Derived.Test.YtlgfcpmihocheaaAx0
import Derived.Test.YtlgfcpmihocheaaAx1
import Derived.Test.YtlgfcpmihocheaaAx2
import Derived.Test.YtlgfcpmihocheaaAx5
import Derived.Test.YtlgfcpmihocheaaAx13
set_option linter.unusedVariables false
set_option linter.unusedSimpArgs false
namespace Go.Proofs.Ytlgfcpmihocheaa.Pure
open Go.RowKit Go.Proofs.Ytlgfcpmihocheaa.A Go.Proofs.YtlgfcpmihocheaaW.PrintWords Go.Proofs.YtlgfcpmihocheaaW.PrintLast Go.Proofs.Ytlgfcpmihocheaa.LibU Go.Proofs.Ytlgfcpmihocheaa.LibE Go.Proofs.Ytlgfcpmihocheaa.LibFk
/-- Frame i of a block that is parted. -/
def fr1 (s fl : Int) (i : Nat) (b : List Int) : S59 := ⟨if i = 0 then 1 else 9, if i = 0 then fl else 0, s, b⟩
def fs (s fl : Int) (l : List Int) (m k : Nat) : List S59 := (List.range k).map (fun i => fr1 s fl i (impl_Part.ch l m i))
/-- All frames, the last one bearing the head's flag. -/
def all (s fl : Int) (l : List Int) (m t : Nat) : List S59 := fs s fl l m t ++ [⟨if t = 0 then 1 else 9, Go.bits .or .i64 (if t = 0 then fl else 0) 4, s, impl_Part.ch l m t⟩]
theorem fs_len (s fl : Int) (l : List Int) (m k : Nat) : (fs s fl l m k).length = k := by simp [fs]
theorem fs_succ (s fl : Int) (l : List Int) (m k : Nat) : fs s fl l m (k + 1) = fs s fl l m k ++ [fr1 s fl k (impl_Part.ch l m k)] := by simp [fs, List.range_succ]
theorem ch_len (l : List Int) (m k : Nat) : (impl_Part.ch l m k).length = min m (l.length - k * m) := by
  unfold impl_Part.ch
  rw [List.length_drop, List.length_take]
  omega
theorem getD_snoc {α : Type} (l : List α) (a z : α) (n : Nat) (h : n = l.length) : (l ++ [a]).getD n z = a := by subst h; simp
theorem set_snoc {α : Type} (l : List α) (a b : α) (n : Nat) (h : n = l.length) : (l ++ [a]).set n b = l ++ [b] := by subst h; simp
theorem goA (s fl : Int) (l : List Int) (m : Nat) (hm : 1 ≤ m) : ∀ k, k * m < l.length ∨ k = 0 → 0 < l.length → impl_Part.go s fl l m (List.range (k + 1)) = fs s fl l m (k + 1)
  | 0, _, hn => by
    simp only [impl_Part.go, Nat.zero_add, List.range_one, List.foldl_cons, List.foldl_nil, impl_Part.fr, fs, List.map_cons, List.map_nil]
    simp [fr1]
  | k + 1, h, hn => by
    have hk : (k + 1) * m < l.length := by rcases h with h | h
                                           · exact h
                                           · omega
    have hk2 : k * m < l.length := by have := Nat.add_mul k 1 m; omega
    have ih := goA s fl l m hm k (.inl hk2) hn
    have e : impl_Part.go s fl l m (List.range (k + 1 + 1)) = impl_Part.fr s (impl_Part.go s fl l m (List.range (k + 1))) (impl_Part.ch l m (k + 1)) := by
      unfold impl_Part.go
      rw [List.range_succ (n := k + 1), List.foldl_append]
      rfl
    rw [e, ih, fs_succ s fl l m (k + 1)]
    have hlast : (fs s fl l m (k + 1)).getD ((fs s fl l m (k + 1)).length - 1) z59 = fr1 s fl k (impl_Part.ch l m k) := by
      rw [fs_succ]
      exact getD_snoc _ _ _ _ (by simp)
    unfold impl_Part.fr
    rw [hlast, if_pos (by show 0 < (impl_Part.ch l m k).length; rw [ch_len]; omega)]
    simp [fr1]
theorem tiA (s fl : Int) (l : List Int) (m k : Nat) : impl_Part.ti (fs s fl l m (k + 1)) = all s fl l m k := by
  have hl : (fs s fl l m (k + 1)).length - 1 = (fs s fl l m k).length := by rw [fs_len, fs_len]; omega
  unfold impl_Part.ti impl_Part.fl all
  rw [hl, fs_succ, getD_snoc _ _ _ _ rfl, set_snoc _ _ _ _ rfl]
  rfl
theorem wrap_add (q m : Nat) (hq : q ≤ 1048576) (hm : m ≤ 1000) : wrap64 ((q : Int) + (m : Int)) = ((q + m : Nat) : Int) := by unfold wrap64; omega
/-- The reference's loop from frame i on; t: the last frame's number. -/
theorem specL (s : Int) (a1 : Bool) (l : List Int) (m t : Nat) (hm : 1 ≤ m) (hm2 : m ≤ 1000) (hl : l.length ≤ 1048576) (h1 : t = 0 ∨ t * m < l.length) (h2 : l.length ≤ t * m + m) (d : Nat) :
    ∀ (i k : Nat), i ≤ t → t - i = d → 3 * d + 9 ≤ k → spec_Part.l0 k s a1 l (m : Int) (fs s (if a1 then 1 else 0) l m i) ((i * m : Nat) : Int) = some (all s (if a1 then 1 else 0) l m t) := by
  have step : ∀ (i k : Nat), i ≤ t → spec_Part.l0 (k + 1 + 1 + 1) s a1 l (m : Int) (fs s (if a1 then 1 else 0) l m i) ((i * m : Nat) : Int) =
      if i = t then spec_Part.l0 k s a1 l (m : Int) (all s (if a1 then 1 else 0) l m t) (((i + 1) * m : Nat) : Int) else spec_Part.l0 k s a1 l (m : Int) (fs s (if a1 then 1 else 0) l m (i + 1)) (((i + 1) * m : Nat) : Int) := by
    intro i k hit
    have hsm : (i + 1) * m = i * m + m := by rw [Nat.add_mul, Nat.one_mul]
    have him : i * m ≤ t * m := Nat.mul_le_mul_right m hit
    have hw : wrap64 (((i * m : Nat) : Int) + (m : Int)) = (((i + 1) * m : Nat) : Int) := by
      rw [hsm]
      refine wrap_add _ _ ?_ hm2
      rcases h1 with h | h
      · rw [h, Nat.zero_mul] at him; omega
      · omega
    have hi0 : ((i * m : Nat) : Int) = 0 ↔ i = 0 := by
      constructor
      · intro h
        rcases Nat.eq_zero_or_pos i with h0 | h0
        · exact h0
        · have := Nat.le_mul_of_pos_right i hm; omega
      · intro h; subst h; simp
    have hil : i = 0 ∨ i * m < l.length := by
      rcases h1 with h | h
      · exact .inl (by omega)
      · exact .inr (by omega)
    have hlen : (fs s (if a1 then 1 else 0) l m i).length < 2932031007402 := by
      rw [fs_len]
      have := Nat.le_mul_of_pos_right i hm
      omega
    have key : ∀ k0 k1 k2 : Int, k2 = s → k0 = (if i = 0 then 1 else 9) → k1 = (if i = 0 then (if a1 then 1 else 0) else 0) →
        spec_Part.j4 (k + 1) s a1 l (m : Int) (fs s (if a1 then 1 else 0) l m i) ((i * m : Nat) : Int) k0 k1 k2 = if i = t then spec_Part.l0 k s a1 l (m : Int) (all s (if a1 then 1 else 0) l m t) (((i + 1) * m : Nat) : Int) else spec_Part.l0 k s a1 l (m : Int) (fs s (if a1 then 1 else 0) l m (i + 1)) (((i + 1) * m : Nat) : Int) := by
      intro k0 k1 k2 e2 e0 e1
      subst e2 e0 e1
      rw [spec_Part.j4, hw]
      by_cases hit2 : i = t
      · rw [if_pos hit2, if_pos (by subst hit2; rw [hsm]; omega)]
        simp only [Option.bind_some, List.length_nil, Nat.zero_add, List.nil_append, Int.toNat_natCast]
        rw [if_pos (by omega), if_pos (by rcases hil with h | h; (subst h; simp); omega), if_pos (by omega), if_pos (by rw [List.length_drop, List.length_take]; omega), if_pos hlen]
        have hch : (l.take l.length).drop (i * m) = impl_Part.ch l m i := by
          unfold impl_Part.ch
          have : i * m + min m (l.length - i * m) = l.length ∨ l.length ≤ i * m + min m (l.length - i * m) := by
            right; subst hit2
            rcases hil with h | h
            · subst h; simp at h2 ⊢; omega
            · omega
          rcases this with h | h
          · rw [h]
          · rw [List.take_of_length_le (Nat.le_refl _), List.take_of_length_le h]
        rw [hch]
        subst hit2
        rfl
      · have hit3 : i + 1 ≤ t := by omega
        have hlt : (i + 1) * m < l.length := by
          rcases h1 with h | h
          · omega
          · exact Nat.lt_of_le_of_lt (Nat.mul_le_mul_right m hit3) h
        rw [if_neg hit2, if_neg (by omega)]
        simp only [Option.bind_some, List.length_nil, Nat.zero_add, List.nil_append, Int.toNat_natCast]
        rw [if_pos (by omega), if_pos (by omega), if_pos (by omega), if_pos (by rw [List.length_drop, List.length_take]; omega), if_pos hlen]
        have hch : (l.take ((i + 1) * m)).drop (i * m) = impl_Part.ch l m i := by
          unfold impl_Part.ch
          rw [show i * m + min m (l.length - i * m) = (i + 1) * m by omega]
        rw [hch, fs_succ]
        rfl
    rw [spec_Part.l0]
    by_cases hz : i = 0
    · rw [if_pos (hi0.2 hz), spec_Part.j3, if_pos rfl, if_pos (hi0.2 hz)]
      cases a1 with
      | true => rw [if_pos rfl]; exact key 1 1 s rfl (by rw [if_pos hz]) (by rw [if_pos hz]; rfl)
      | false => rw [if_neg (by decide)]; exact key 1 0 s rfl (by rw [if_pos hz]) (by rw [if_pos hz]; rfl)
    · have hlt : i * m < l.length := by rcases hil with h | h; (exact absurd h hz); exact h
      rw [if_neg (fun h => hz (hi0.1 h)), decide_eq_true (by omega), spec_Part.j3, if_pos rfl, if_neg (fun h => hz (hi0.1 h))]
      exact key 9 0 s rfl (by rw [if_neg hz]) (by rw [if_neg hz])
  induction d with
  | zero =>
    intro i k hi hd hk
    obtain ⟨k, rfl⟩ : ∃ q, k = q + 1 + 1 + 1 + 1 + 1 := ⟨k - 5, by omega⟩
    rw [step i (k + 1 + 1) hi, if_pos (by omega)]
    have : t * m < (i + 1) * m := by rw [show i = t by omega, Nat.add_mul, Nat.one_mul]; omega
    have hx : l.length ≤ (i + 1) * m := by rw [show i = t by omega, Nat.add_mul, Nat.one_mul]; omega
    rw [spec_Part.l0, if_neg (by omega), decide_eq_false (by omega), spec_Part.j3, if_neg (by decide)]
  | succ d ih =>
    intro i k hi hd hk
    obtain ⟨k, rfl⟩ : ∃ q, k = q + 1 + 1 + 1 := ⟨k - 3, by omega⟩
    rw [step i k hi, if_neg (by omega)]
    exact ih (i + 1) k (by omega) (by omega) (by omega)
theorem tot_le (m : Nat) : ∀ l : List S59, (∀ f ∈ l, f.f3.length ≤ m) → tot l ≤ ((l.length * (3 + m) : Nat) : Int)
  | [], _ => by simp [tot]
  | f :: l, h => by
    have h1 := tot_le m l (fun g hg => h g (List.mem_cons_of_mem _ hg))
    have h2 := h f List.mem_cons_self
    have h3 : tot (f :: l) = tot l + 3 + f.f3.length := by simp only [tot]; omega
    rw [h3, List.length_cons, Nat.add_mul, Nat.one_mul]
    omega
theorem part_both (a0 : Int) (a1 : Bool) (l : List Int) (a3 : Int) (hl : l.length ≤ 1048576) : ∃ r K, (∀ k, K ≤ k → spec_Part.f k a0 a1 l a3 = some r) ∧ impl_Part.f a0 a1 l a3 = some r ∧ tot r ≤ 10000000 := by
  by_cases hin : 1 ≤ a0 ∧ a0 ≤ 2147483647
  · have hm : 1 ≤ impl_Part.mo a3 ∧ impl_Part.mo a3 ≤ 1000 := by unfold impl_Part.mo; constructor <;> (repeat' split) <;> omega
    have hmi : ((impl_Part.mo a3 : Nat) : Int) = (if a3 < 1 then 1 else if a3 > 1000 then 1000 else a3) := by
      unfold impl_Part.mo
      (repeat' split) <;> omega
    obtain ⟨m, hmm⟩ : ∃ m, m = impl_Part.mo a3 := ⟨_, rfl⟩
    rw [← hmm] at hm hmi
    obtain ⟨t, ht1, ht2, ht3⟩ : ∃ t, (t = 0 ∨ t * m < l.length) ∧ l.length ≤ t * m + m ∧ impl_Part.go a0 (if a1 then 1 else 0) l m (List.range ((l.length + m - 1) / m)) = fs a0 (if a1 then 1 else 0) l m (t + 1) := by
      by_cases hz : l.length = 0
      · refine ⟨0, .inl rfl, by omega, ?_⟩
        rw [show (l.length + m - 1) / m = 0 from Nat.div_eq_of_lt (by omega)]
        obtain rfl : l = [] := List.eq_nil_of_length_eq_zero hz
        simp [impl_Part.go, fs, fr1, impl_Part.ch]
      · have hd := Nat.div_add_mod (l.length + m - 1) m
        have hr := Nat.mod_lt (l.length + m - 1) (show m > 0 by omega)
        obtain ⟨q, hq⟩ : ∃ q, q = (l.length + m - 1) / m := ⟨_, rfl⟩
        rw [← hq] at hd ⊢
        obtain ⟨t, rfl⟩ : ∃ t, q = t + 1 := by
          cases q with
          | zero => simp at hd; omega
          | succ t => exact ⟨t, rfl⟩
        have e : m * (t + 1) = t * m + m := by rw [Nat.mul_comm, Nat.add_mul, Nat.one_mul]
        rw [e] at hd
        exact ⟨t, .inr (by omega), by omega, goA _ _ _ _ hm.1 t (.inl (by omega)) (by omega)⟩
    refine ⟨all a0 (if a1 then 1 else 0) l m t, 3 * t + 20, fun k hk => ?_, ?_, ?_⟩
    · have hS := fun k hk => specL a0 a1 l m t hm.1 hm.2 hl ht1 ht2 t 0 k (by omega) (by omega) hk
      have hS2 : ∀ k, 3 * t + 9 ≤ k → spec_Part.l0 k a0 a1 l (m : Int) [] 0 = some (all a0 (if a1 then 1 else 0) l m t) := fun k hk => by
        have := hS k hk
        simpa [fs] using this
      obtain ⟨k, rfl⟩ : ∃ q, k = q + 1 + 1 := ⟨k - 2, by omega⟩
      unfold spec_Part.f
      simp only [Option.bind_some]
      refine bs (show spec_l1In.f a0 1 2147483647 = some true from by unfold spec_l1In.f; rw [if_pos (by omega), decide_eq_true (by omega)]) (ifp rfl ?_)
      have h3 := hS2 k (by omega)
      by_cases c1 : a3 < 1
      · rw [if_pos c1] at hmi
        rw [hmi] at h3
        rw [if_pos c1, spec_Part.j0, if_neg (by omega), spec_Part.j1]
        exact h3
      · rw [if_neg c1] at hmi
        rw [if_neg c1, spec_Part.j0]
        by_cases c2 : a3 > 1000
        · rw [if_pos c2] at hmi
          rw [hmi] at h3
          rw [if_pos c2, spec_Part.j1]
          exact h3
        · rw [if_neg c2] at hmi
          rw [hmi] at h3
          rw [if_neg c2, spec_Part.j1]
          exact h3
    · unfold impl_Part.f
      rw [if_pos hin, if_pos (by omega), ← hmm, ht3, tiA]
    · have h1 := tot_le m (all a0 (if a1 then 1 else 0) l m t) (by
        intro f hf
        unfold all at hf
        rcases List.mem_append.1 hf with hf | hf
        · unfold fs at hf
          obtain ⟨i, _, rfl⟩ := List.mem_map.1 hf
          show (impl_Part.ch l m i).length ≤ m
          rw [ch_len]; omega
        · rw [List.mem_singleton.1 hf]
          show (impl_Part.ch l m t).length ≤ m
          rw [ch_len]; omega)
      have h2 : (all a0 (if a1 then 1 else 0) l m t).length = t + 1 := by unfold all; rw [List.length_append, fs_len]; rfl
      rw [h2] at h1
      have h3 : (t + 1) * (3 + m) = 3 * t + 3 + t * m + m := by rw [Nat.succ_mul, Nat.mul_add]; omega
      rw [h3] at h1
      have h4 : t ≤ t * m := Nat.le_mul_of_pos_right t hm.1
      have h5 : t * m ≤ 1048576 := by rcases ht1 with h | h; (subst h; omega); omega
      omega
  · refine ⟨[], 0, fun k _ => ?_, ?_, by simp [tot]⟩
    · unfold spec_Part.f
      simp only [Option.bind_some]
      have : spec_l1In.f a0 1 2147483647 = some false := by
        unfold spec_l1In.f
        split
        · rw [decide_eq_false (by omega)]
        · rfl
      exact bs this (ifn (by decide) rfl)
    · unfold impl_Part.f
      rw [if_neg hin]
theorem FnExactPart : laws_FnExactPart.Pure := by
  intro a0 a1 l a3 _ _ _ hw _
  by_cases h : (l.length : Int) > 1048576
  · exact ⟨0, by unfold laws_FnExactPart.f; rw [if_pos h]⟩
  obtain ⟨K1, h1⟩ := toByteS (l := l) (by omega)
  obtain ⟨F, K2, hs, hi, h4⟩ := part_both a0 a1 l a3 (by omega)
  have hT := tot_nonneg F
  obtain ⟨m1, m2⟩ := markHeldF F (by omega)
  have e1 := eqF F (by omega)
  have e2 := eqB l (by omega)
  have mb := markBf l (by omega)
  refine ⟨K1 + K2 + 30000000 + 1, ?_⟩
  unfold laws_FnExactPart.f
  refine ifn h (bs (h1 _ (by omega)) (bs (hs _ (by omega)) (bs (h1 _ (by omega)) (bs hi (bs (e1 _ (by omega)) (ifp rfl (bs (h1 _ (by omega)) (bs (e2 _ (by omega)) (ifp rfl (bs (mb _ (by omega)) (ifn (by dsimp only; omega) (bs (e1 _ (by omega)) ?_))))))))))))
  rw [show (!true) = false from rfl, laws_FnExactPart.j0, if_neg (by decide)]
  refine bs (m1 _ (by omega)) (bs (m2 _ (by omega)) (ifn (by omega) (ifp rfl (bs (h1 _ (by omega)) (bs hi (bs (e1 _ (by omega)) (ifp rfl (bs (m2 _ (by omega)) (ifn (by omega) (ifp rfl rfl))))))))))
end Go.Proofs.Ytlgfcpmihocheaa.Pure
