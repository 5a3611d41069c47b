/- GetPrefix, the program's: what is read of the bytes that PutPrefix puts. Condition: each theorem's own bounds. -/
import Derived.Test.YtkhcnmjgojkkoaaLibP
import Derived.Test.YtkhcnmjgojkkoaaAx28
set_option linter.unusedVariables false
set_option linter.unusedSimpArgs false
namespace Go.Proofs.Ytkhcnmjgojkkoaa.LibGP
open Go.RowKit Go.Proofs.Ytkhcnmjgojkkoaa.A Go.Proofs.YtkhcnmjgojkkoaaW.PrintWords Go.Proofs.YtkhcnmjgojkkoaaW.PrintLast Go.Proofs.YtkhcnmjgojkkoaaW.PrintMore Go.Proofs.Ytkhcnmjgojkkoaa.LibU Go.Proofs.Ytkhcnmjgojkkoaa.LibBits Go.Proofs.Ytkhcnmjgojkkoaa.LibP
theorem getD_app_right (l r : List Int) (i : Nat) : (l ++ r).getD (l.length + i) 0 = r.getD i 0 := by
  simp only [List.getD_eq_getElem?_getD]
  rw [List.getElem?_append_right (by omega)]
  congr 2
  omega
theorem shl7 (x : Nat) (i : Nat) (hx : x < 128) (hi : i < 4) : shl .i64 (x : Int) (IntKind.u64.wrap (wrap64 (7 * (i : Int)))) = ((x * 128 ^ i : Nat) : Int) := by
  rcases (show i = 0 ∨ i = 1 ∨ i = 2 ∨ i = 3 by omega) with rfl | rfl | rfl | rfl
  · have e : IntKind.u64.wrap (wrap64 (7 * ((0 : Nat) : Int))) = 0 := by decide +kernel
    have e2 : min (0 : Int).toNat IntKind.i64.bits = 0 := by decide
    have e3 : (2 : Int) ^ 0 = 1 := by decide
    rw [e]; unfold shl; rw [e2, e3, IntKind.wrap_i64]; omega
  · have e : IntKind.u64.wrap (wrap64 (7 * ((1 : Nat) : Int))) = 7 := by decide +kernel
    have e2 : min (7 : Int).toNat IntKind.i64.bits = 7 := by decide
    have e3 : (2 : Int) ^ 7 = 128 := by decide
    rw [e]; unfold shl; rw [e2, e3, IntKind.wrap_i64]; omega
  · have e : IntKind.u64.wrap (wrap64 (7 * ((2 : Nat) : Int))) = 14 := by decide +kernel
    have e2 : min (14 : Int).toNat IntKind.i64.bits = 14 := by decide
    have e3 : (2 : Int) ^ 14 = 16384 := by decide
    rw [e]; unfold shl; rw [e2, e3, IntKind.wrap_i64]; omega
  · have e : IntKind.u64.wrap (wrap64 (7 * ((3 : Nat) : Int))) = 21 := by decide +kernel
    have e2 : min (21 : Int).toNat IntKind.i64.bits = 21 := by decide
    have e3 : (2 : Int) ^ 21 = 2097152 := by decide
    rw [e]; unfold shl; rw [e2, e3, IntKind.wrap_i64]; omega
/-- One further byte that says that more come. -/
theorem more_step (p : List Int) (hp : p.length ≤ 2000000) (at_ i : Nat) (n : Int) (x : Nat) (hx : x < 128) (hi : i < 4) (ha : at_ < p.length) (hv : p.getD at_ 0 = ((x + 128 : Nat) : Int)) (hn : 0 ≤ n ∧ n ≤ 1000000000) (k : Nat) :
    impl_GetPrefix.l0 (k + 1 + 1) p (at_ : Int) n (i : Int) = impl_GetPrefix.l0 k p ((at_ + 1 : Nat) : Int) (n + ((x * 128 ^ i : Nat) : Int)) ((i + 1 : Nat) : Int) := by
  have hpow : x * 128 ^ i ≤ 128 * 2097152 := by
    rcases (show i = 0 ∨ i = 1 ∨ i = 2 ∨ i = 3 by omega) with rfl | rfl | rfl | rfl <;> simp <;> omega
  simp only [impl_GetPrefix.l0, impl_GetPrefix.j2, rd_nat, hv]
  rw [if_pos (by omega), if_pos (decide_eq_true (by omega)), if_pos (by omega), if_pos (by omega), if_pos (u64_nn _), w64 (x := ((x + 128 : Nat) : Int)) (by omega) (by omega), if_neg (by omega), and127 (x + 128) (by omega)]
  have em : (x + 128) % 128 = x := by omega
  rw [em, shl7 x i hx hi, w64 (x := n + ((x * 128 ^ i : Nat) : Int)) (by omega) (by omega), w64 (x := (at_ : Int) + 1) (by omega) (by omega), w64 (x := (i : Int) + 1) (by omega) (by omega)]
  rfl
/-- The last further byte. -/
theorem last_step (p : List Int) (hp : p.length ≤ 2000000) (at_ i : Nat) (n : Int) (x : Nat) (hx : x < 128) (hi : i < 4) (ha : at_ < p.length) (hv : p.getD at_ 0 = (x : Int)) (hn : 0 ≤ n ∧ n + ((x * 128 ^ i : Nat) : Int) ≤ 16777216) (k : Nat) :
    impl_GetPrefix.l0 (k + 1 + 1) p (at_ : Int) n (i : Int) = some (n + ((x * 128 ^ i : Nat) : Int), ((at_ + 1 : Nat) : Int), true) := by
  simp only [impl_GetPrefix.l0, impl_GetPrefix.j2, rd_nat, hv]
  rw [if_pos (by omega), if_pos (decide_eq_true (by omega)), if_pos (by omega), if_pos (by omega), if_pos (u64_nn _), w64 (x := (x : Int)) (by omega) (by omega), if_pos (by omega), and127 x (by omega)]
  have em : x % 128 = x := by omega
  rw [em, shl7 x i hx hi, w64 (x := n + ((x * 128 ^ i : Nat) : Int)) (by omega) (by omega), if_neg (by omega), w64 (x := (at_ : Int) + 1) (by omega) (by omega)]
  rfl
/-- Where the bytes end, nothing is read. -/
theorem end_step (p : List Int) (at_ i : Nat) (n : Int) (ha : p.length ≤ at_) (k : Nat) : impl_GetPrefix.l0 (k + 1 + 1) p (at_ : Int) n (i : Int) = some (0, 0, false) := by
  simp only [impl_GetPrefix.l0, impl_GetPrefix.j2]
  by_cases h : (i : Int) < 4
  · rw [if_pos h, if_neg (by simp; omega)]
  · rw [if_neg h, if_neg (by decide)]
theorem vi_ne (x : Nat) : vi x ≠ [] := by rw [vi]; split <;> simp
/-- The further bytes of a number, wherever they stand, come back. -/
theorem read_vi (d : Nat) : ∀ (x i : Nat) (l r : List Int) (n : Nat), x < 128 ^ (d + 1) → d + i < 4 → (l ++ vi x ++ r).length ≤ 2000000 → n + x * 128 ^ i ≤ 16777216 →
    ∀ k, 2 * (d + 1) ≤ k → impl_GetPrefix.l0 k (l ++ vi x ++ r) (l.length : Int) (n : Int) (i : Int) = some (((n + x * 128 ^ i : Nat) : Int), ((l.length + (vi x).length : Nat) : Int), true) := by
  have one : ∀ (x i : Nat) (l r : List Int) (n : Nat), x ≤ 127 → i < 4 → (l ++ vi x ++ r).length ≤ 2000000 → n + x * 128 ^ i ≤ 16777216 → ∀ k, 2 ≤ k →
      impl_GetPrefix.l0 k (l ++ vi x ++ r) (l.length : Int) (n : Int) (i : Int) = some (((n + x * 128 ^ i : Nat) : Int), ((l.length + (vi x).length : Nat) : Int), true) := by
    intro x i l r n hx hi hlen hn k hk
    obtain ⟨k, rfl⟩ : ∃ m, k = m + 1 + 1 := ⟨k - 2, by omega⟩
    have hv : vi x = [(x : Int)] := by rw [vi, if_neg (by omega)]
    rw [hv]
    rw [hv] at hlen
    have := last_step (l ++ [(x : Int)] ++ r) hlen l.length i (n : Int) x (by omega) (by omega) (by simp) (by simp) (by omega) k
    rw [this]
    simp
  induction d with
  | zero => intro x i l r n hx hd hlen hn k hk; exact one x i l r n (by omega) (by omega) hlen hn k (by omega)
  | succ d ih =>
    intro x i l r n hx hd hlen hn k hk
    by_cases h : x > 127
    · have hv : vi x = ((x % 128 + 128 : Nat) : Int) :: vi (x / 128) := by rw [vi, if_pos h]
      have hp : x < 128 ^ (d + 1) * 128 := by rw [← Nat.pow_succ]; exact hx
      have hd1 : x / 128 < 128 ^ (d + 1) := Nat.div_lt_of_lt_mul (by rw [Nat.mul_comm]; exact hp)
      have hxx : x % 128 * 128 ^ i + x / 128 * 128 ^ (i + 1) = x * 128 ^ i := by
        rw [Nat.pow_succ, Nat.mul_comm (128 ^ i) 128, ← Nat.mul_assoc, ← Nat.add_mul]
        congr 1
        omega
      obtain ⟨k, rfl⟩ : ∃ m, k = m + 1 + 1 := ⟨k - 2, by omega⟩
      rw [hv]
      rw [hv] at hlen
      have h1 := more_step (l ++ ((x % 128 + 128 : Nat) : Int) :: vi (x / 128) ++ r) hlen l.length i (n : Int) (x % 128) (by omega) (by omega) (by simp) (by simp) (by omega) k
      have hl' : l ++ ((x % 128 + 128 : Nat) : Int) :: vi (x / 128) ++ r = (l ++ [((x % 128 + 128 : Nat) : Int)]) ++ vi (x / 128) ++ r := by simp
      rw [h1, hl']
      rw [hl'] at hlen
      have h2 := ih (x / 128) (i + 1) (l ++ [((x % 128 + 128 : Nat) : Int)]) r (n + x % 128 * 128 ^ i) hd1 (by omega) hlen (by omega) k (by omega)
      have el : (((l ++ [((x % 128 + 128 : Nat) : Int)]).length : Nat) : Int) = ((l.length + 1 : Nat) : Int) := by simp
      have en : (n : Int) + ((x % 128 * 128 ^ i : Nat) : Int) = ((n + x % 128 * 128 ^ i : Nat) : Int) := by omega
      rw [el] at h2
      rw [en, h2]
      have ea : n + x % 128 * 128 ^ i + x / 128 * 128 ^ (i + 1) = n + x * 128 ^ i := by omega
      have eb : (l ++ [((x % 128 + 128 : Nat) : Int)]).length + (vi (x / 128)).length = l.length + (((x % 128 + 128 : Nat) : Int) :: vi (x / 128)).length := by simp; omega
      rw [ea, eb]
    · exact one x i l r n (by omega) (by omega) hlen hn k (by omega)
/-- Without the last of them nothing is read. -/
theorem read_cut (d : Nat) : ∀ (x i : Nat) (l : List Int) (n : Nat), x < 128 ^ (d + 1) → d + i < 4 → (l ++ (vi x).dropLast).length ≤ 2000000 → n + x * 128 ^ i ≤ 16777216 →
    ∀ k, 2 * (d + 1) ≤ k → impl_GetPrefix.l0 k (l ++ (vi x).dropLast) (l.length : Int) (n : Int) (i : Int) = some (0, 0, false) := by
  have one : ∀ (x i : Nat) (l : List Int) (n : Nat), x ≤ 127 → ∀ k, 2 ≤ k → impl_GetPrefix.l0 k (l ++ (vi x).dropLast) (l.length : Int) (n : Int) (i : Int) = some (0, 0, false) := by
    intro x i l n hx k hk
    obtain ⟨k, rfl⟩ : ∃ m, k = m + 1 + 1 := ⟨k - 2, by omega⟩
    have hv : vi x = [(x : Int)] := by rw [vi, if_neg (by omega)]
    rw [hv]
    exact end_step _ _ _ _ (by simp) k
  induction d with
  | zero => intro x i l n hx hd hlen hn k hk; exact one x i l n (by omega) k (by omega)
  | succ d ih =>
    intro x i l n hx hd hlen hn k hk
    by_cases h : x > 127
    · have hv : (vi x).dropLast = ((x % 128 + 128 : Nat) : Int) :: (vi (x / 128)).dropLast := by
        have : vi x = ((x % 128 + 128 : Nat) : Int) :: vi (x / 128) := by rw [vi, if_pos h]
        rw [this, List.dropLast_cons_of_ne_nil (vi_ne _)]
      have hp : x < 128 ^ (d + 1) * 128 := by rw [← Nat.pow_succ]; exact hx
      have hd1 : x / 128 < 128 ^ (d + 1) := Nat.div_lt_of_lt_mul (by rw [Nat.mul_comm]; exact hp)
      have hxx : x % 128 * 128 ^ i + x / 128 * 128 ^ (i + 1) = x * 128 ^ i := by
        rw [Nat.pow_succ, Nat.mul_comm (128 ^ i) 128, ← Nat.mul_assoc, ← Nat.add_mul]
        congr 1
        omega
      obtain ⟨k, rfl⟩ : ∃ m, k = m + 1 + 1 := ⟨k - 2, by omega⟩
      rw [hv]
      rw [hv] at hlen
      have h1 := more_step (l ++ ((x % 128 + 128 : Nat) : Int) :: (vi (x / 128)).dropLast) hlen l.length i (n : Int) (x % 128) (by omega) (by omega) (by simp) (by simp) (by omega) k
      have hl' : l ++ ((x % 128 + 128 : Nat) : Int) :: (vi (x / 128)).dropLast = (l ++ [((x % 128 + 128 : Nat) : Int)]) ++ (vi (x / 128)).dropLast := by simp
      rw [h1, hl']
      rw [hl'] at hlen
      have h2 := ih (x / 128) (i + 1) (l ++ [((x % 128 + 128 : Nat) : Int)]) (n + x % 128 * 128 ^ i) hd1 (by omega) hlen (by omega) k (by omega)
      have el : (((l ++ [((x % 128 + 128 : Nat) : Int)]).length : Nat) : Int) = ((l.length + 1 : Nat) : Int) := by simp
      have en : (n : Int) + ((x % 128 * 128 ^ i : Nat) : Int) = ((n + x % 128 * 128 ^ i : Nat) : Int) := by omega
      rw [el] at h2
      rw [en, h2]
    · exact one x i l n (by omega) k (by omega)
/-- The first byte's lower bits. -/
theorem low_bits {b : Nat} (hb : 1 ≤ b ∧ b ≤ 8) (x : Int) (hx : 0 ≤ x ∧ x ≤ 255) : Go.bits .and .i64 x ((2 ^ b - 1 : Nat) : Int) = x % 2 ^ b := by
  have h := i64_mask x b (by omega) (by omega) (by omega)
  have e : ((2 ^ b - 1 : Nat) : Int) = 2 ^ b - 1 := by
    rcases (show b = 1 ∨ b = 2 ∨ b = 3 ∨ b = 4 ∨ b = 5 ∨ b = 6 ∨ b = 7 ∨ b = 8 by omega) with rfl | rfl | rfl | rfl | rfl | rfl | rfl | rfl <;> decide
  rw [e]
  exact h
set_option maxRecDepth 100000 in
theorem high_tab : ∀ b : Fin 8, ∀ f : Fin 256, Go.bits .and .i64 (f.val : Int) (Go.bits .andNot .i64 255 ((2 ^ (b.val + 1) - 1 : Nat) : Int)) = ((f.val / 2 ^ (b.val + 1) * 2 ^ (b.val + 1) : Nat) : Int) := by decide +kernel
theorem high_eq {b f : Nat} (hb : 1 ≤ b ∧ b ≤ 8) (hf : f ≤ 255) : Go.bits .and .i64 (f : Int) (Go.bits .andNot .i64 255 ((2 ^ b - 1 : Nat) : Int)) = ((f / 2 ^ b * 2 ^ b : Nat) : Int) := by
  have := high_tab ⟨b - 1, by omega⟩ ⟨f, by omega⟩
  simpa [show b - 1 + 1 = b by omega] using this
theorem pow_cases {b : Nat} (hb : 1 ≤ b ∧ b ≤ 8) : (b = 1 ∧ 2 ^ b = 2) ∨ (b = 2 ∧ 2 ^ b = 4) ∨ (b = 3 ∧ 2 ^ b = 8) ∨ (b = 4 ∧ 2 ^ b = 16) ∨ (b = 5 ∧ 2 ^ b = 32) ∨ (b = 6 ∧ 2 ^ b = 64) ∨ (b = 7 ∧ 2 ^ b = 128) ∨ (b = 8 ∧ 2 ^ b = 256) := by
  rcases (show b = 1 ∨ b = 2 ∨ b = 3 ∨ b = 4 ∨ b = 5 ∨ b = 6 ∨ b = 7 ∨ b = 8 by omega) with rfl | rfl | rfl | rfl | rfl | rfl | rfl | rfl <;> decide
/-- The first byte: the upper bits as they were, below them the number or all ones. -/
theorem first_byte {b f m : Nat} (hb : 1 ≤ b ∧ b ≤ 8) (hf : f ≤ 255) (hm : m ≤ 2 ^ b - 1) :
    (Go.bits .or .i64 (Go.bits .and .i64 (f : Int) (Go.bits .andNot .i64 255 ((2 ^ b - 1 : Nat) : Int))) (m : Int)) % 256 = ((f / 2 ^ b * 2 ^ b + m : Nat) : Int) ∧ f / 2 ^ b * 2 ^ b + m ≤ 255 := by
  rw [high_eq hb hf]
  have e : ∀ q : Nat, q ≤ 255 → q / 2 ^ b * 2 ^ b + (2 ^ b - 1) ≤ 255 := by
    intro q hq
    rcases pow_cases hb with ⟨_, h⟩ | ⟨_, h⟩ | ⟨_, h⟩ | ⟨_, h⟩ | ⟨_, h⟩ | ⟨_, h⟩ | ⟨_, h⟩ | ⟨_, h⟩ <;> rw [h] <;> omega
  have h1 := e f hf
  have hj := i64_join b ((f / 2 ^ b * 2 ^ b : Nat) : Int) (m : Int) (by omega) (by
    have : (((f / 2 ^ b * 2 ^ b : Nat) : Int)) = (f / 2 ^ b : Nat) * (2 : Int) ^ b := by push_cast; rfl
    rw [this]
    exact Int.mul_emod_left _ _) (by omega) (by omega) (by
    have : ((2 ^ b : Nat) : Int) = (2 : Int) ^ b := by push_cast; rfl
    rw [← this]
    have : 0 < 2 ^ b := Nat.two_pow_pos b
    omega) (by omega)
  rw [hj]
  exact ⟨by omega, by omega⟩
theorem mod_hi {b f m : Nat} (hb : 1 ≤ b ∧ b ≤ 8) (hm : m ≤ 2 ^ b - 1) : ((f / 2 ^ b * 2 ^ b + m : Nat) : Int) % 2 ^ b = (m : Int) ∧ (f / 2 ^ b * 2 ^ b + m) / 2 ^ b = f / 2 ^ b := by
  have hp : 0 < 2 ^ b := Nat.two_pow_pos b
  constructor
  · have e : ((2 : Int) ^ b) = ((2 ^ b : Nat) : Int) := by push_cast; rfl
    have e2 : (f / 2 ^ b * 2 ^ b + m) % 2 ^ b = m := by rw [Nat.mul_comm, Nat.mul_add_mod, Nat.mod_eq_of_lt (by omega)]
    rw [e]
    omega
  · rw [Nat.mul_comm, Nat.mul_add_div hp]
    have : m / 2 ^ b = 0 := Nat.div_eq_of_lt (by omega)
    omega
/-- A place in range: the first byte decides. -/
theorem getPrefix_at (p : List Int) (at_ b v : Nat) (hp : p.length ≤ 2000000) (hb : 1 ≤ b ∧ b ≤ 8) (ha : at_ < p.length) (hv : p.getD at_ 0 = (v : Int)) (hv2 : v ≤ 255) (k : Nat) :
    impl_GetPrefix.f (k + 1) p (at_ : Int) (b : Int) = if ((v : Int) % 2 ^ b) < ((2 ^ b - 1 : Nat) : Int) then some ((v : Int) % 2 ^ b, ((at_ + 1 : Nat) : Int), true) else impl_GetPrefix.l0 k p ((at_ + 1 : Nat) : Int) ((v : Int) % 2 ^ b) 0 := by
  unfold impl_GetPrefix.f
  refine bs (inRange _ _ _) ?_
  rw [if_pos (by simp; omega), w64 (x := (p.length : Int) - 1) (by omega) (by omega)]
  refine bs (inRange _ _ _) ?_
  simp only [impl_GetPrefix.j0, rd_nat, hv]
  rw [if_neg (by simp; omega), if_pos (u64_nn _), if_pos (by omega), if_pos (by omega), shl1 b hb, w64 (x := (v : Int)) (by omega) (by omega), low_bits hb v (by omega), w64 (x := (at_ : Int) + 1) (by omega) (by omega)]
  rfl
theorem getPrefix_out (p : List Int) (at_ b : Nat) (hp : p.length ≤ 2000000) (hb : 1 ≤ b ∧ b ≤ 8) (ha : p.length ≤ at_) (k : Nat) : impl_GetPrefix.f (k + 1) p (at_ : Int) (b : Int) = some (0, 0, false) := by
  unfold impl_GetPrefix.f
  refine bs (inRange _ _ _) ?_
  rw [if_pos (by simp; omega), w64 (x := (p.length : Int) - 1) (by omega) (by omega)]
  refine bs (inRange _ _ _) ?_
  simp only [impl_GetPrefix.j0]
  rw [if_pos (by simp; omega)]
/-- What PutPrefix puts comes back, with whatever behind it; without its last byte it doesn't; the upper bits stay. -/
theorem roundtrip {l r : List Int} {b f n : Nat} (hb : 1 ≤ b ∧ b ≤ 8) (hf : f ≤ 255) (hn : n ≤ 16777216) (hl : l.length + r.length ≤ 1500000) :
    (∀ k, 12 ≤ k → impl_GetPrefix.f k (l ++ pfxTail b n f ++ r) (l.length : Int) (b : Int) = some ((n : Int), ((l.length + (pfxTail b n f).length : Nat) : Int), true)) ∧
    (∀ k, 12 ≤ k → impl_GetPrefix.f k (l ++ (pfxTail b n f).dropLast) (l.length : Int) (b : Int) = some (0, 0, false)) ∧
    ∃ v : Nat, v ≤ 255 ∧ (pfxTail b n f).getD 0 0 = (v : Int) ∧ v / 2 ^ b = f / 2 ^ b := by
  have hlen := pfxTail_length b n f hn
  have hp := pow_le b hb
  by_cases h : n < 2 ^ b - 1
  · obtain ⟨h1, h2⟩ := first_byte (b := b) (f := f) (m := n) hb hf (by omega)
    obtain ⟨m1, m2⟩ := mod_hi (b := b) (f := f) (m := n) hb (by omega)
    have ht : pfxTail b n f = [((f / 2 ^ b * 2 ^ b + n : Nat) : Int)] := by unfold pfxTail; rw [if_pos h, h1]
    rw [ht]
    refine ⟨fun k hk => ?_, fun k hk => ?_, ⟨f / 2 ^ b * 2 ^ b + n, h2, rfl, m2⟩⟩
    · obtain ⟨k, rfl⟩ := ix (show 0 < k by omega)
      rw [getPrefix_at _ l.length b (f / 2 ^ b * 2 ^ b + n) (by simp; omega) hb (by simp) (by simp) h2 k, m1, if_pos (by omega)]
      rfl
    · obtain ⟨k, rfl⟩ := ix (show 0 < k by omega)
      exact getPrefix_out _ _ b (by simp; omega) hb (by simp) k
  · obtain ⟨h1, h2⟩ := first_byte (b := b) (f := f) (m := 2 ^ b - 1) hb hf (by omega)
    obtain ⟨m1, m2⟩ := mod_hi (b := b) (f := f) (m := 2 ^ b - 1) hb (by omega)
    have ht : pfxTail b n f = ((f / 2 ^ b * 2 ^ b + (2 ^ b - 1) : Nat) : Int) :: vi (n - (2 ^ b - 1)) := by unfold pfxTail; rw [if_neg h, h1]
    have hv4 := vi_length 3 (n - (2 ^ b - 1)) (by rw [pow4]; omega)
    rw [ht]
    refine ⟨fun k hk => ?_, fun k hk => ?_, ⟨f / 2 ^ b * 2 ^ b + (2 ^ b - 1), h2, rfl, m2⟩⟩
    · obtain ⟨k, rfl⟩ := ix (show 0 < k by omega)
      rw [getPrefix_at _ l.length b (f / 2 ^ b * 2 ^ b + (2 ^ b - 1)) (by simp; omega) hb (by simp) (by simp) h2 k, m1, if_neg (by omega)]
      have e : l ++ ((f / 2 ^ b * 2 ^ b + (2 ^ b - 1) : Nat) : Int) :: vi (n - (2 ^ b - 1)) ++ r = (l ++ [((f / 2 ^ b * 2 ^ b + (2 ^ b - 1) : Nat) : Int)]) ++ vi (n - (2 ^ b - 1)) ++ r := by simp
      have := read_vi 3 (n - (2 ^ b - 1)) 0 (l ++ [((f / 2 ^ b * 2 ^ b + (2 ^ b - 1) : Nat) : Int)]) r (2 ^ b - 1) (by rw [pow4]; omega) (by omega) (by simp; omega) (by simp; omega) k (by omega)
      have el : (((l ++ [((f / 2 ^ b * 2 ^ b + (2 ^ b - 1) : Nat) : Int)]).length : Nat) : Int) = ((l.length + 1 : Nat) : Int) := by simp
      rw [el] at this
      rw [e]
      refine this.trans ?_
      have ea : 2 ^ b - 1 + (n - (2 ^ b - 1)) * 128 ^ 0 = n := by simp; omega
      rw [ea]
      congr 3
      simp
      omega
    · obtain ⟨k, rfl⟩ := ix (show 0 < k by omega)
      rw [List.dropLast_cons_of_ne_nil (vi_ne _)]
      rw [getPrefix_at _ l.length b (f / 2 ^ b * 2 ^ b + (2 ^ b - 1)) (by simp; omega) hb (by simp) (by simp) h2 k, m1, if_neg (by omega)]
      have e : l ++ ((f / 2 ^ b * 2 ^ b + (2 ^ b - 1) : Nat) : Int) :: (vi (n - (2 ^ b - 1))).dropLast = (l ++ [((f / 2 ^ b * 2 ^ b + (2 ^ b - 1) : Nat) : Int)]) ++ (vi (n - (2 ^ b - 1))).dropLast := by simp
      have := read_cut 3 (n - (2 ^ b - 1)) 0 (l ++ [((f / 2 ^ b * 2 ^ b + (2 ^ b - 1) : Nat) : Int)]) (2 ^ b - 1) (by rw [pow4]; omega) (by omega) (by simp; omega) (by simp; omega) k (by omega)
      have el : (((l ++ [((f / 2 ^ b * 2 ^ b + (2 ^ b - 1) : Nat) : Int)]).length : Nat) : Int) = ((l.length + 1 : Nat) : Int) := by simp
      rw [el] at this
      rw [e]
      exact this
end Go.Proofs.Ytkhcnmjgojkkoaa.LibGP
