/- Small laws of numbers and rounds, and the two tests of a range. No condition beyond each theorem's own. The reference's test of a range. No condition. Tables: the law's own words on fields and tables; how great a table is. Condition: each theorem's own bounds. The first fields: the program's, cut out of one text, are the reference's. Condition: each theorem's own bounds. -/
import Derived.Test.YtfcgadokmbooaaaDoorWMore
import Derived.KernelRfl
import Derived.Lib.Split
import Derived.Test.YtfcgadokmbooaaaDoorAx2
import Derived.Test.YtfcgadokmbooaaaDoorAx3
import Derived.Test.YtfcgadokmbooaaaDoorAx4
import Derived.Test.YtfcgadokmbooaaaDoorAx5
import Derived.Test.YtfcgadokmbooaaaDoorAx6
import Derived.Test.YtfcgadokmbooaaaDoorAx7
import Derived.Test.YtfcgadokmbooaaaDoorAx8
import Derived.Test.YtfcgadokmbooaaaDoorAx10
import Derived.Test.YtfcgadokmbooaaaDoorAx11
set_option linter.unusedVariables false
set_option linter.unusedSimpArgs false
namespace Go.Proofs.YtfcgadokmbooaaaDoor.LibU
open Go.RowKit Go.Proofs.YtfcgadokmbooaaaDoor.A Go.Proofs.YtfcgadokmbooaaaDoorW.PrintWords Go.Proofs.YtfcgadokmbooaaaDoorW.PrintLast Go.Proofs.YtfcgadokmbooaaaDoorW.PrintMore
theorem w64 {x : Int} (h0 : -9223372036854775808 ≤ x) (h1 : x ≤ 9223372036854775807) : wrap64 x = x := by unfold wrap64; omega
theorem u64_nn (x : Int) : 0 ≤ IntKind.u64.wrap x := by
  unfold IntKind.wrap
  simp only [IntKind.signed, IntKind.bits, Bool.false_and]
  simp only [Bool.false_eq_true, if_false]
  omega
theorem ix {k : Nat} (h : 0 < k) : ∃ m, k = m + 1 := ⟨k - 1, by omega⟩
/-- One callee's answer, and what follows. -/
theorem bs {α β : Type} {o : Option α} {a : α} {f : α → Option β} {r : Option β} (h : o = some a) (h' : f a = r) : o.bind f = r := by rw [h]; exact h'
theorem ifp {α : Type} {c : Prop} [Decidable c] {a b r : α} (h : c) (h' : a = r) : (if c then a else b) = r := by rw [if_pos h]; exact h'
theorem ifn {α : Type} {c : Prop} [Decidable c] {a b r : α} (h : ¬ c) (h' : b = r) : (if c then a else b) = r := by rw [if_neg h]; exact h'
theorem rd_nat (l : List Int) (i : Nat) : rd l (i : Int) = l.getD i 0 := by simp [rd]
theorem wf64 {a : Int} (h : (Lit.int .i64 a).wf = true) : -9223372036854775808 ≤ a ∧ a ≤ 9223372036854775807 := by
  simp only [Lit.wf, IntKind.min, IntKind.max, IntKind.signed, IntKind.bits, Bool.and_eq_true, decide_eq_true_eq, if_true] at h
  omega
theorem wf8 {a : Int} (h : (Lit.int .u8 a).wf = true) : 0 ≤ a ∧ a ≤ 255 := by
  simp only [Lit.wf, IntKind.min, IntKind.max, IntKind.signed, IntKind.bits, Bool.and_eq_true, decide_eq_true_eq, if_true, Bool.false_eq_true, if_false] at h
  omega
end Go.Proofs.YtfcgadokmbooaaaDoor.LibU
namespace Go.Proofs.YtfcgadokmbooaaaDoor.LibU
open Go.RowKit Go.Proofs.YtfcgadokmbooaaaDoor.A Go.Proofs.YtfcgadokmbooaaaDoorW.PrintWords Go.Proofs.YtfcgadokmbooaaaDoorW.PrintLast Go.Proofs.YtfcgadokmbooaaaDoorW.PrintMore
end Go.Proofs.YtfcgadokmbooaaaDoor.LibU
namespace Go.Proofs.YtfcgadokmbooaaaDoor.LibT1
open Go.RowKit Go.Proofs.YtfcgadokmbooaaaDoor.A Go.Proofs.YtfcgadokmbooaaaDoorW.PrintWords Go.Proofs.YtfcgadokmbooaaaDoorW.PrintLast Go.Proofs.YtfcgadokmbooaaaDoor.LibU
def conv (x : S39) : S23 := ⟨x.f0, x.f1⟩
/-- How many letters and fields. -/
def bulk (l : List S39) : Int := (l.map fun x => (x.f0.size : Int) + x.f1.size).sum
theorem bulk_nonneg (l : List S39) : 0 ≤ bulk l := by
  unfold bulk
  induction l with
  | nil => simp
  | cons x l ih => simp only [List.map_cons, List.sum_cons]; omega
theorem szFieldS_l (l : List S39) (hl : l.length ≤ 1048576) (hw : ∀ x ∈ l, x.f0.size ≤ 9223372036854775807 ∧ x.f1.size ≤ 9223372036854775807) (d : Nat) : ∀ (i : Nat) (left : Int), 0 ≤ left → left ≤ 1048576 → i ≤ l.length → l.length - i = d →
    ∃ r, (∀ k, d < k → laws_szFieldS.l0 k l left (i : Int) = some r) ∧ ((r = -1 ∧ left < bulk (l.drop i)) ∨ (r = left - bulk (l.drop i) ∧ bulk (l.drop i) ≤ left)) := by
  induction d with
  | zero =>
    intro i left h0 h1 hi hd
    refine ⟨left, fun k hk => ?_, ?_⟩
    · obtain ⟨k, rfl⟩ := ix (show 0 < k by omega)
      simp only [laws_szFieldS.l0]
      rw [if_neg (by omega)]
    · rw [List.drop_of_length_le (by omega)]
      exact .inr ⟨by simp [bulk], by simp [bulk]; omega⟩
  | succ d ih =>
    intro i left h0 h1 hi hd
    have hlt : i < l.length := by omega
    have hx := hw _ (List.getElem_mem hlt)
    have hr : rd_T39 l (i : Int) = l[i] := by simp [rd_T39, List.getD_eq_getElem?_getD, List.getElem?_eq_getElem hlt]
    have hb : bulk (l.drop i) = ((l[i].f0.size : Int) + l[i].f1.size) + bulk (l.drop (i + 1)) := by
      unfold bulk
      rw [List.drop_eq_getElem_cons hlt, List.map_cons, List.sum_cons]
    have hb0 := bulk_nonneg (l.drop (i + 1))
    have hf : laws_szField.f l[i].f0 l[i].f1 left = some (if (l[i].f0.size : Int) + l[i].f1.size ≤ left then left - ((l[i].f0.size : Int) + l[i].f1.size) else -1) := by
      unfold laws_szField.f
      rw [w64 (x := left - (l[i].f0.size : Int)) (by omega) (by omega)]
      by_cases c1 : left - (l[i].f0.size : Int) < 0
      · rw [if_pos c1, if_neg (by omega)]
      · rw [if_neg c1, w64 (by omega) (by omega)]
        by_cases c2 : left - (l[i].f0.size : Int) - l[i].f1.size < 0
        · rw [if_pos c2, if_neg (by omega)]
        · rw [if_neg c2, if_pos (by omega)]
          congr 1
          omega
    by_cases c : (l[i].f0.size : Int) + l[i].f1.size ≤ left
    · rw [if_pos c] at hf
      obtain ⟨r, hr1, hr2⟩ := ih (i + 1) (left - ((l[i].f0.size : Int) + l[i].f1.size)) (by omega) (by omega) (by omega) (by omega)
      refine ⟨r, fun k hk => ?_, ?_⟩
      · obtain ⟨k, rfl⟩ := ix (show 0 < k by omega)
        simp only [laws_szFieldS.l0]
        rw [if_pos (by omega), if_pos (by omega), hr, hf]
        simp only [Option.bind_some]
        rw [if_neg (by omega), w64 (x := (i : Int) + 1) (by omega) (by omega)]
        exact hr1 k (by omega)
      · rcases hr2 with ⟨h2, h3⟩ | ⟨h2, h3⟩
        · exact .inl ⟨h2, by omega⟩
        · exact .inr ⟨by omega, by omega⟩
    · rw [if_neg c] at hf
      refine ⟨-1, fun k hk => ?_, .inl ⟨rfl, by omega⟩⟩
      obtain ⟨k, rfl⟩ := ix (show 0 < k by omega)
      simp only [laws_szFieldS.l0]
      rw [if_pos (by omega), if_pos (by omega), hr, hf]
      rfl
theorem szFieldS (l : List S39) (left : Int) (h0 : 0 ≤ left) (h1 : left ≤ 1048576) (hl : l.length ≤ 9223372036854775807) (hw : ∀ x ∈ l, x.f0.size ≤ 9223372036854775807 ∧ x.f1.size ≤ 9223372036854775807) :
    ∃ K r, (∀ k, K ≤ k → laws_szFieldS.f k l left = some r) ∧ (r = -1 ∨ (0 ≤ r ∧ r = left - l.length - bulk l)) := by
  by_cases c : (l.length : Int) ≤ left
  · obtain ⟨r, hr1, hr2⟩ := szFieldS_l l (by omega) hw l.length 0 (left - l.length) (by omega) (by omega) (by omega) (by omega)
    have hb0 := bulk_nonneg l
    refine ⟨l.length + 1, r, fun k hk => ?_, ?_⟩
    · unfold laws_szFieldS.f
      rw [w64 (by omega) (by omega), if_neg (by omega)]
      exact hr1 k (by omega)
    · simp only [List.drop_zero] at hr2
      omega
  · refine ⟨0, -1, fun k hk => ?_, .inl rfl⟩
    unfold laws_szFieldS.f
    rw [w64 (by omega) (by omega), if_pos (by omega)]
theorem szTable (m : Int) (l : List S39) (left : Int) (h0 : 0 ≤ left) (h1 : left ≤ 1048576) (hl : l.length ≤ 9223372036854775807) (hw : ∀ x ∈ l, x.f0.size ≤ 9223372036854775807 ∧ x.f1.size ≤ 9223372036854775807) :
    ∃ K r, (∀ k, K ≤ k → laws_szTable.f k m l left = some r) ∧ (r = -1 ∨ (0 ≤ r ∧ r = left - l.length - bulk l)) := by
  obtain ⟨K, r, h, hr⟩ := szFieldS l left h0 h1 hl hw
  refine ⟨K, r, fun k hk => ?_, hr⟩
  unfold laws_szTable.f
  rw [h k hk]
  simp only [Option.bind_some]
  rcases hr with rfl | ⟨hr, _⟩
  · rfl
  · rw [if_neg (by omega)]
theorem toFieldS_l (l : List S39) (hl : l.length ≤ 1048576) (d : Nat) : ∀ (k : Nat) (i : Nat) (x : List S23), x.length = l.length → x.take i = (l.map conv).take i → i ≤ l.length → l.length - i = d → d < k → laws_toFieldS.l0 k l x (i : Int) = some (l.map conv) := by
  induction d with
  | zero =>
    intro k i x hx ht hi hd hk
    obtain ⟨k, rfl⟩ := ix (show 0 < k by omega)
    simp only [laws_toFieldS.l0]
    rw [if_neg (by omega)]
    have h : i = l.length := by omega
    subst h
    rw [← hx, List.take_length, hx] at ht
    rw [ht, List.take_of_length_le (by simp)]
  | succ d ih =>
    intro k i x hx ht hi hd hk
    obtain ⟨k, rfl⟩ := ix (show 0 < k by omega)
    simp only [laws_toFieldS.l0, laws_toField.f, Option.bind_some]
    rw [if_pos (by omega), if_pos (by omega), if_pos (by omega), w64 (by omega) (by omega)]
    have := ih k (i + 1) (x.set i (conv (rd_T39 l i))) (by simp [hx]) ?_ (by omega) (by omega) (by omega)
    · simpa [conv] using this
    · rw [List.take_succ_eq_append_getElem (by simp [hx]; omega), List.take_succ_eq_append_getElem (by simp; omega)]
      rw [List.take_set_of_le (Nat.le_refl _), ht]
      simp [rd_T39, List.getD_eq_getElem?_getD, List.getElem?_eq_getElem (show i < l.length by omega)]
theorem toTable (m : Int) {l : List S39} (hl : l.length ≤ 1048576) : ∀ k, l.length < k → laws_toTable.f k m l = some (m, l.map conv) := by
  intro k hk
  unfold laws_toTable.f laws_toFieldS.f
  rw [if_pos (by omega), if_pos (by omega)]
  exact bs (toFieldS_l l hl l.length k 0 _ (by simp) (by simp) (by omega) (by omega) (by omega)) rfl
theorem eqFieldS_l (l : List S23) (hl : l.length ≤ 1048576) (d : Nat) : ∀ (k : Nat) (i : Nat), i ≤ l.length → l.length - i = d → d < k → laws_eqFieldS.l0 k l l (i : Int) = some true := by
  induction d with
  | zero =>
    intro k i hi hd hk
    obtain ⟨k, rfl⟩ := ix (show 0 < k by omega)
    simp only [laws_eqFieldS.l0]
    rw [if_neg (by omega)]
  | succ d ih =>
    intro k i hi hd hk
    obtain ⟨k, rfl⟩ := ix (show 0 < k by omega)
    simp only [laws_eqFieldS.l0, laws_eqField.f]
    rw [if_pos (by omega), if_pos (by omega), if_pos (by omega), if_pos trivial, if_pos trivial, w64 (by omega) (by omega)]
    simp only [Option.bind_some, if_true]
    exact ih k (i + 1) (by omega) (by omega) (by omega)
theorem eqTable (m : Int) {l : List S23} (hl : l.length ≤ 1048576) : ∀ k, l.length < k → laws_eqTable.f k m l m l = some true := by
  intro k hk
  unfold laws_eqTable.f laws_eqFieldS.f
  rw [if_pos rfl, if_pos rfl]
  exact bs (eqFieldS_l l hl l.length k 0 (by omega) (by omega) (by omega)) rfl
end Go.Proofs.YtfcgadokmbooaaaDoor.LibT1
namespace Go.Proofs.YtfcgadokmbooaaaDoor.LibFF
open Go Go.RowKit Go.Proofs.YtfcgadokmbooaaaDoor.A Go.Proofs.YtfcgadokmbooaaaDoorW.PrintWords Go.Proofs.YtfcgadokmbooaaaDoorW.PrintLast Go.Proofs.YtfcgadokmbooaaaDoorW.PrintMore Go.Proofs.YtfcgadokmbooaaaDoor.LibU
/-! Cutting at one byte -/
theorem ix_hit (c : UInt8) (p r : List UInt8) (h : c ∉ p) : Lib.index (p ++ c :: r) [c] = p.length := by
  rw [Lib.index_one]
  induction p with
  | nil => simp [Lib.indexByte]
  | cons b p ih =>
    have hb : (b == c) = false := by
      rw [beq_eq_false_iff_ne]
      intro e; exact h (by rw [e]; exact List.mem_cons_self ..)
    have hi := ih (fun e => h (List.mem_cons_of_mem _ e))
    rw [List.cons_append, Lib.indexByte, hb, hi]
    have : (((p.length : Int)) == -1) = false := by rw [beq_eq_false_iff_ne]; omega
    rw [this]
    simp
theorem ix_miss (c : UInt8) (p : List UInt8) (h : c ∉ p) : Lib.index p [c] = -1 := by
  rw [Lib.index_one]
  induction p with
  | nil => rfl
  | cons b p ih =>
    have hb : (b == c) = false := by
      rw [beq_eq_false_iff_ne]
      intro e; exact h (by rw [e]; exact List.mem_cons_self ..)
    rw [Lib.indexByte, hb, ih (fun e => h (List.mem_cons_of_mem _ e))]
    simp
def bar : List (List UInt8) → List UInt8
  | [] => []
  | [p] => p
  | p :: q :: ps => p ++ 124 :: bar (q :: ps)
theorem split_bar (ps : List (List UInt8)) : ∀ p, (∀ q ∈ p :: ps, (124 : UInt8) ∉ q) → Lib.splitK [124] 0 ps.length (bar (p :: ps)) = p :: ps := by
  induction ps with
  | nil => intro p _; rfl
  | cons q ps ih =>
    intro p h
    have hp := h p (List.mem_cons_self ..)
    have e : bar (p :: q :: ps) = p ++ 124 :: bar (q :: ps) := rfl
    have hi := ix_hit 124 p (bar (q :: ps)) hp
    rw [List.length_cons, Lib.splitK, e, hi]
    have hm : (((p.length : Int)) == -1) = false := by rw [beq_eq_false_iff_ne]; omega
    rw [hm, if_neg (by decide), Int.toNat_natCast]
    have e1 : (p ++ 124 :: bar (q :: ps)).take (p.length + 0) = p := by simp
    have e2 : (p ++ 124 :: bar (q :: ps)).drop (p.length + [(124 : UInt8)].length) = bar (q :: ps) := by
      rw [List.drop_append]; simp
    rw [e1, e2, ih q (fun x hx => h x (List.mem_cons_of_mem _ hx))]
theorem count_bar (ps : List (List UInt8)) : ∀ p fuel, (∀ q ∈ p :: ps, (124 : UInt8) ∉ q) → ps.length < fuel → Lib.countFrom [124] fuel (bar (p :: ps)) = ps.length := by
  induction ps with
  | nil =>
    intro p fuel h hf
    obtain ⟨f, rfl⟩ := ix (show 0 < fuel by omega)
    rw [Lib.countFrom, show bar [p] = p from rfl, ix_miss 124 p (h p (List.mem_cons_self ..))]
    rfl
  | cons q ps ih =>
    intro p fuel h hf
    obtain ⟨f, rfl⟩ := ix (show 0 < fuel by omega)
    have hp := h p (List.mem_cons_self ..)
    have e : bar (p :: q :: ps) = p ++ 124 :: bar (q :: ps) := rfl
    have hi := ix_hit 124 p (bar (q :: ps)) hp
    rw [Lib.countFrom, e, hi]
    have hm : (((p.length : Int)) == -1) = false := by rw [beq_eq_false_iff_ne]; omega
    rw [hm, if_neg (by decide), Int.toNat_natCast]
    have e2 : (p ++ 124 :: bar (q :: ps)).drop (p.length + [(124 : UInt8)].length) = bar (q :: ps) := by
      rw [List.drop_append]; simp
    rw [e2, ih q f (fun x hx => h x (List.mem_cons_of_mem _ hx)) (by simp at hf; omega), List.length_cons]
    omega
/-! The fields -/
def fields : List (List UInt8 × Option (List UInt8)) :=
  ([58, 97, 117, 116, 104, 111, 114, 105, 116, 121], none) ::
  ([58, 109, 101, 116, 104, 111, 100], some [71, 69, 84]) ::
  ([58, 109, 101, 116, 104, 111, 100], some [80, 79, 83, 84]) ::
  ([58, 112, 97, 116, 104], some [47]) ::
  ([58, 112, 97, 116, 104], some [47, 105, 110, 100, 101, 120, 46, 104, 116, 109, 108]) ::
  ([58, 115, 99, 104, 101, 109, 101], some [104, 116, 116, 112]) ::
  ([58, 115, 99, 104, 101, 109, 101], some [104, 116, 116, 112, 115]) ::
  ([58, 115, 116, 97, 116, 117, 115], some [50, 48, 48]) ::
  ([58, 115, 116, 97, 116, 117, 115], some [50, 48, 52]) ::
  ([58, 115, 116, 97, 116, 117, 115], some [50, 48, 54]) ::
  ([58, 115, 116, 97, 116, 117, 115], some [51, 48, 52]) ::
  ([58, 115, 116, 97, 116, 117, 115], some [52, 48, 48]) ::
  ([58, 115, 116, 97, 116, 117, 115], some [52, 48, 52]) ::
  ([58, 115, 116, 97, 116, 117, 115], some [53, 48, 48]) ::
  ([97, 99, 99, 101, 112, 116, 45, 99, 104, 97, 114, 115, 101, 116], none) ::
  ([97, 99, 99, 101, 112, 116, 45, 101, 110, 99, 111, 100, 105, 110, 103], some [103, 122, 105, 112, 44, 32, 100, 101, 102, 108, 97, 116, 101]) ::
  ([97, 99, 99, 101, 112, 116, 45, 108, 97, 110, 103, 117, 97, 103, 101], none) ::
  ([97, 99, 99, 101, 112, 116, 45, 114, 97, 110, 103, 101, 115], none) ::
  ([97, 99, 99, 101, 112, 116], none) ::
  ([97, 99, 99, 101, 115, 115, 45, 99, 111, 110, 116, 114, 111, 108, 45, 97, 108, 108, 111, 119, 45, 111, 114, 105, 103, 105, 110], none) ::
  ([97, 103, 101], none) ::
  ([97, 108, 108, 111, 119], none) ::
  ([97, 117, 116, 104, 111, 114, 105, 122, 97, 116, 105, 111, 110], none) ::
  ([99, 97, 99, 104, 101, 45, 99, 111, 110, 116, 114, 111, 108], none) ::
  ([99, 111, 110, 116, 101, 110, 116, 45, 100, 105, 115, 112, 111, 115, 105, 116, 105, 111, 110], none) ::
  ([99, 111, 110, 116, 101, 110, 116, 45, 101, 110, 99, 111, 100, 105, 110, 103], none) ::
  ([99, 111, 110, 116, 101, 110, 116, 45, 108, 97, 110, 103, 117, 97, 103, 101], none) ::
  ([99, 111, 110, 116, 101, 110, 116, 45, 108, 101, 110, 103, 116, 104], none) ::
  ([99, 111, 110, 116, 101, 110, 116, 45, 108, 111, 99, 97, 116, 105, 111, 110], none) ::
  ([99, 111, 110, 116, 101, 110, 116, 45, 114, 97, 110, 103, 101], none) ::
  ([99, 111, 110, 116, 101, 110, 116, 45, 116, 121, 112, 101], none) ::
  ([99, 111, 111, 107, 105, 101], none) ::
  ([100, 97, 116, 101], none) ::
  ([101, 116, 97, 103], none) ::
  ([101, 120, 112, 101, 99, 116], none) ::
  ([101, 120, 112, 105, 114, 101, 115], none) ::
  ([102, 114, 111, 109], none) ::
  ([104, 111, 115, 116], none) ::
  ([105, 102, 45, 109, 97, 116, 99, 104], none) ::
  ([105, 102, 45, 109, 111, 100, 105, 102, 105, 101, 100, 45, 115, 105, 110, 99, 101], none) ::
  ([105, 102, 45, 110, 111, 110, 101, 45, 109, 97, 116, 99, 104], none) ::
  ([105, 102, 45, 114, 97, 110, 103, 101], none) ::
  ([105, 102, 45, 117, 110, 109, 111, 100, 105, 102, 105, 101, 100, 45, 115, 105, 110, 99, 101], none) ::
  ([108, 97, 115, 116, 45, 109, 111, 100, 105, 102, 105, 101, 100], none) ::
  ([108, 105, 110, 107], none) ::
  ([108, 111, 99, 97, 116, 105, 111, 110], none) ::
  ([109, 97, 120, 45, 102, 111, 114, 119, 97, 114, 100, 115], none) ::
  ([112, 114, 111, 120, 121, 45, 97, 117, 116, 104, 101, 110, 116, 105, 99, 97, 116, 101], none) ::
  ([112, 114, 111, 120, 121, 45, 97, 117, 116, 104, 111, 114, 105, 122, 97, 116, 105, 111, 110], none) ::
  ([114, 97, 110, 103, 101], none) ::
  ([114, 101, 102, 101, 114, 101, 114], none) ::
  ([114, 101, 102, 114, 101, 115, 104], none) ::
  ([114, 101, 116, 114, 121, 45, 97, 102, 116, 101, 114], none) ::
  ([115, 101, 114, 118, 101, 114], none) ::
  ([115, 101, 116, 45, 99, 111, 111, 107, 105, 101], none) ::
  ([115, 116, 114, 105, 99, 116, 45, 116, 114, 97, 110, 115, 112, 111, 114, 116, 45, 115, 101, 99, 117, 114, 105, 116, 121], none) ::
  ([116, 114, 97, 110, 115, 102, 101, 114, 45, 101, 110, 99, 111, 100, 105, 110, 103], none) ::
  ([117, 115, 101, 114, 45, 97, 103, 101, 110, 116], none) ::
  ([118, 97, 114, 121], none) ::
  ([118, 105, 97], none) ::
  ([119, 119, 119, 45, 97, 117, 116, 104, 101, 110, 116, 105, 99, 97, 116, 101], none) :: []
def part : List UInt8 × Option (List UInt8) → List UInt8
  | (n, none) => n
  | (n, some v) => n ++ 61 :: v
def fieldOf (x : List UInt8 × Option (List UInt8)) : S23 := ⟨⟨x.1.toArray⟩, ⟨(x.2.getD []).toArray⟩⟩
def parts : List (List UInt8) := fields.map part
theorem parts_bar : ∀ q ∈ parts, (124 : UInt8) ∉ q := by decide +kernel
theorem fields_eq : ∀ x ∈ fields, (61 : UInt8) ∉ x.1 := by decide +kernel
theorem parts_small : ∀ q ∈ parts, q.length < 100 := by decide +kernel
theorem parts_len : parts.length = 61 := by decide +kernel
theorem cut_part (x : List UInt8 × Option (List UInt8)) (h : (61 : UInt8) ∉ x.1) : (Lib.cut (part x) [61]).1 = x.1 ∧ (Lib.cut (part x) [61]).2.1 = x.2.getD [] := by
  obtain ⟨n, v⟩ := x
  cases v with
  | none =>
    have e : part (n, none) = n := rfl
    rw [e, Lib.cut, ix_miss 61 n h, if_neg (by decide)]
    exact ⟨rfl, rfl⟩
  | some v =>
    have e : part (n, some v) = n ++ 61 :: v := rfl
    rw [e, Lib.cut, ix_hit 61 n v h, if_pos (by omega), Int.toNat_natCast]
    refine ⟨by simp, ?_⟩
    show (n ++ 61 :: v).drop (n.length + [(61 : UInt8)].length) = v
    rw [List.drop_append]; simp
theorem bytes_ext {a b : ByteArray} (h : a.data.toList = b.data.toList) : a = b := by
  cases a; cases b; simp at h; rw [h]
/-- The loop over the parts. -/
theorem loop (fs : List (List UInt8 × Option (List UInt8))) (hf : ∀ x ∈ fs, (61 : UInt8) ∉ x.1) (hs : ∀ x ∈ fs, (part x).length < 100) (hl : fs.length ≤ 1000) (d : Nat) : ∀ (i k : Nat) (acc : List S23), acc.length ≤ i → i ≤ fs.length → fs.length - i = d → d < k →
    impl_firstFields.l0 k acc (fs.map fun x => (⟨(part x).toArray⟩ : ByteArray)) (fs.length : Int) (i : Int) = some (acc ++ (fs.drop i).map fieldOf) := by
  induction d with
  | zero =>
    intro i k acc ha hi hd hk
    obtain ⟨k, rfl⟩ := ix (show 0 < k by omega)
    simp only [impl_firstFields.l0]
    rw [if_neg (by omega), List.drop_of_length_le (by omega)]
    simp
  | succ d ih =>
    intro i k acc ha hi hd hk
    obtain ⟨k, rfl⟩ := ix (show 0 < k by omega)
    have hlt : i < fs.length := by omega
    have hx := List.getElem_mem hlt
    have hr : rdOf ByteArray.empty (fs.map fun x => (⟨(part x).toArray⟩ : ByteArray)) (i : Int) = ⟨(part fs[i]).toArray⟩ := by
      simp [rdOf, List.getD_eq_getElem?_getD, List.getElem?_eq_getElem hlt]
    simp only [impl_firstFields.l0]
    rw [if_pos (by omega), if_pos (by omega), if_pos (by simp; omega), hr]
    obtain ⟨c1, c2⟩ := cut_part fs[i] (hf _ hx)
    have hcut : ∃ b, strings_Cut.f (⟨(part fs[i]).toArray⟩ : ByteArray) (⟨#[61]⟩ : ByteArray) = some (⟨fs[i].1.toArray⟩, ⟨(fs[i].2.getD []).toArray⟩, b) := by
      unfold strings_Cut.f
      have hsz : (ByteArray.mk (part fs[i]).toArray).size < 4294967281 := by
        show (part fs[i]).toArray.size < _
        rw [List.size_toArray]
        have := hs _ hx
        omega
      rw [if_pos hsz]
      refine ⟨(Lib.cut (part fs[i]) [61]).2.2, ?_⟩
      have e1 : (ByteArray.mk (part fs[i]).toArray).data.toList = part fs[i] := rfl
      have e2 : (ByteArray.mk #[61]).data.toList = [61] := rfl
      rw [e1, e2, c1, c2]
    obtain ⟨b, hb⟩ := hcut
    refine bs hb ?_
    rw [if_pos (by omega), w64 (by omega) (by omega)]
    have := ih (i + 1) k (acc ++ [fieldOf fs[i]]) (by simp; omega) (by omega) (by omega) (by omega)
    rw [List.drop_eq_getElem_cons hlt, List.map_cons]
    simpa [fieldOf] using this
theorem bar_length (ps : List (List UInt8)) : ∀ p, ps.length ≤ (bar (p :: ps)).length := by
  induction ps with
  | nil => intro p; simp
  | cons q ps ih =>
    intro p
    have e : bar (p :: q :: ps) = p ++ 124 :: bar (q :: ps) := rfl
    have := ih q
    rw [e, List.length_append, List.length_cons, List.length_cons]
    omega
theorem split_text (s : ByteArray) (hs : s.data.toList = bar parts) (hz : s.size < 4294967281) : strings_Split.f s (⟨#[124]⟩ : ByteArray) = some (fields.map fun x => (⟨(part x).toArray⟩ : ByteArray)) := by
  obtain ⟨p, ps, hp⟩ : ∃ p ps, parts = p :: ps := ⟨_, _, rfl⟩
  have hall : ∀ q ∈ p :: ps, (124 : UInt8) ∉ q := by rw [← hp]; exact parts_bar
  have htl : ps.length = 60 := by
    have := parts_len
    rw [hp, List.length_cons] at this
    omega
  have e2 : (ByteArray.mk #[124]).data.toList = [124] := rfl
  have hc : Lib.countB s (⟨#[124]⟩ : ByteArray) = 60 := by
    show Lib.count s.data.toList [124] = 60
    rw [hs, hp]
    unfold Lib.count
    have := bar_length ps p
    rw [count_bar _ _ _ hall (by omega), htl]
  have hd := Lib.splitB_data (⟨#[124]⟩ : ByteArray) 0 60 s
  rw [e2, hs, hp] at hd
  have hk := split_bar ps p hall
  rw [htl] at hk
  rw [hk, ← hp] at hd
  have hL : Lib.splitB (⟨#[124]⟩ : ByteArray) 0 60 s = parts.map fun q => (⟨q.toArray⟩ : ByteArray) := by
    rw [← hd, List.map_map]
    conv => lhs; rw [← List.map_id (Lib.splitB (⟨#[124]⟩ : ByteArray) 0 60 s)]
    apply List.map_congr_left
    intro x _
    apply bytes_ext
    simp
  unfold strings_Split.f
  rw [hc, hL]
  have hm : (60 : Nat) + 1 ≤ maxLen := by unfold maxLen; omega
  rw [if_pos ⟨⟨hz, by decide⟩, hm, by rw [List.length_map, parts_len]⟩]
  unfold parts
  rw [List.map_map]
  rfl
theorem firsts (k : Nat) (hk : 70 ≤ k) : impl_firstFields.f k = some (fields.map fieldOf) := by
  unfold impl_firstFields.f
  refine bs (split_text _ (by kernel_rfl) (by decide +kernel)) ?_
  have hl : fields.length = 61 := by have := parts_len; unfold parts at this; rw [List.length_map] at this; exact this
  have := loop fields fields_eq (fun x hx => parts_small _ (List.mem_map_of_mem hx)) (by omega) 61 0 k [] (by simp) (by omega) (by omega) (by omega)
  rw [List.length_map]
  simpa using this
theorem spec_firsts : spec_l4First.f = some (fields.map fieldOf) := by kernel_rfl
end Go.Proofs.YtfcgadokmbooaaaDoor.LibFF
