/- The lengths of Huffman's codes as the program's text tells them, and the codes that follow of them, in plain lists. Condition: each theorem's own bounds. codesOf: the call hands back a new block that holds all codes. Condition: the library's own variable is there. huffLen and huff, over a block that holds the codes: what the calls answer. Condition: each theorem's own. spec.l3Lens: the literal's row. No condition. huff: what the call answers, over a block that holds the codes. Condition: each theorem's own. The map of all codes, as it is read: what a look-up in it finds. Condition: each theorem's own bounds. unHuff: what the call answers, over a block that holds the codes. Condition: each theorem's own. CodeLen, CodeOf, HuffLen, Huff, UnHuff: what the calls answer. Condition: the library's own variable is there, and each theorem's own. UnHuff: what the call answers. Condition: the library's own variable is there, and the theorem's own. A string appended to a row of bytes that is the call's own: where what comes of it lies. Condition: each theorem's own. -/
import Derived.KernelRfl
import Derived.Lib.Split
import Derived.Lib.Atoi
import Derived.Test.YthflimnpiglgbaaDoorWWords
import Derived.Test.YthflimnpiglgbaaDoorShelf
import Derived.Great.Walk
import Derived.WalkKit
import Derived.BigCall
import Derived.Deep.LoopGhost
import Derived.Test.YthflimnpiglgbaaDoorAx0
import Derived.RegionTactic
import Derived.BigRegion
import Derived.Maps.OwnSet
import Derived.Maps.OwnOps
import Derived.Maps.Views
import Derived.DeepKeys4
import Derived.Test.YthflimnpiglgbaaDoorWMore
import Derived.Test.YthflimnpiglgbaaDoorWKept
import Derived.Lib.AppendStr
set_option linter.unusedVariables false
set_option linter.unusedSimpArgs false
namespace Go.Proofs.YthflimnpiglgbaaDoor.LibLens
open Go Go.RowKit Go.Proofs.YthflimnpiglgbaaDoorW.PrintWords
theorem ix {k : Nat} (h : 0 < k) : ∃ m, k = m + 1 := ⟨k - 1, by omega⟩
/-! Cutting at one byte -/
theorem ix_hit (c : UInt8) (p r : List UInt8) (h : c ∉ p) : Lib.index (p ++ c :: r) [c] = p.length := by
  rw [Lib.index_one]
  induction p with
  | nil => simp [Lib.indexByte]
  | cons b p ih =>
    have hb : (b == c) = false := by
      rw [beq_eq_false_iff_ne]
      intro e; exact h (by rw [e]; exact List.mem_cons_self ..)
    have hi := ih (fun e => h (List.mem_cons_of_mem _ e))
    rw [List.cons_append, Lib.indexByte, hb, hi]
    have : (((p.length : Int)) == -1) = false := by rw [beq_eq_false_iff_ne]; omega
    rw [this]
    simp
theorem ix_miss (c : UInt8) (p : List UInt8) (h : c ∉ p) : Lib.index p [c] = -1 := by
  rw [Lib.index_one]
  induction p with
  | nil => rfl
  | cons b p ih =>
    have hb : (b == c) = false := by
      rw [beq_eq_false_iff_ne]
      intro e; exact h (by rw [e]; exact List.mem_cons_self ..)
    rw [Lib.indexByte, hb, ih (fun e => h (List.mem_cons_of_mem _ e))]
    simp
def bar : List (List UInt8) → List UInt8
  | [] => []
  | [p] => p
  | p :: q :: ps => p ++ 32 :: bar (q :: ps)
theorem split_bar (ps : List (List UInt8)) : ∀ p, (∀ q ∈ p :: ps, (32 : UInt8) ∉ q) → Lib.splitK [32] 0 ps.length (bar (p :: ps)) = p :: ps := by
  induction ps with
  | nil => intro p _; rfl
  | cons q ps ih =>
    intro p h
    have hp := h p (List.mem_cons_self ..)
    have e : bar (p :: q :: ps) = p ++ 32 :: bar (q :: ps) := rfl
    have hi := ix_hit 32 p (bar (q :: ps)) hp
    rw [List.length_cons, Lib.splitK, e, hi]
    have hm : (((p.length : Int)) == -1) = false := by rw [beq_eq_false_iff_ne]; omega
    rw [hm, if_neg (by decide), Int.toNat_natCast]
    have e1 : (p ++ 32 :: bar (q :: ps)).take (p.length + 0) = p := by simp
    have e2 : (p ++ 32 :: bar (q :: ps)).drop (p.length + [(32 : UInt8)].length) = bar (q :: ps) := by
      rw [List.drop_append]; simp
    rw [e1, e2, ih q (fun x hx => h x (List.mem_cons_of_mem _ hx))]
theorem count_bar (ps : List (List UInt8)) : ∀ p fuel, (∀ q ∈ p :: ps, (32 : UInt8) ∉ q) → ps.length < fuel → Lib.countFrom [32] fuel (bar (p :: ps)) = ps.length := by
  induction ps with
  | nil =>
    intro p fuel h hf
    obtain ⟨f, rfl⟩ := ix (show 0 < fuel by omega)
    rw [Lib.countFrom, show bar [p] = p from rfl, ix_miss 32 p (h p (List.mem_cons_self ..))]
    rfl
  | cons q ps ih =>
    intro p fuel h hf
    obtain ⟨f, rfl⟩ := ix (show 0 < fuel by omega)
    have hp := h p (List.mem_cons_self ..)
    have e : bar (p :: q :: ps) = p ++ 32 :: bar (q :: ps) := rfl
    have hi := ix_hit 32 p (bar (q :: ps)) hp
    rw [Lib.countFrom, e, hi]
    have hm : (((p.length : Int)) == -1) = false := by rw [beq_eq_false_iff_ne]; omega
    rw [hm, if_neg (by decide), Int.toNat_natCast]
    have e2 : (p ++ 32 :: bar (q :: ps)).drop (p.length + [(32 : UInt8)].length) = bar (q :: ps) := by
      rw [List.drop_append]; simp
    rw [e2, ih q f (fun x hx => h x (List.mem_cons_of_mem _ hx)) (by simp at hf; omega), List.length_cons]
    omega
theorem bar_length (ps : List (List UInt8)) : ∀ p, ps.length ≤ (bar (p :: ps)).length := by
  induction ps with
  | nil => intro p; simp
  | cons q ps ih =>
    intro p
    have e : bar (p :: q :: ps) = p ++ 32 :: bar (q :: ps) := rfl
    have := ih q
    rw [e, List.length_append, List.length_cons, List.length_cons]
    omega
theorem bytes_ext {a b : ByteArray} (h : a.data.toList = b.data.toList) : a = b := by
  cases a; cases b; simp at h; rw [h]
/-! The lengths -/
set_option maxRecDepth 100000 in
def lens : List Nat :=
  13 :: 23 :: 28 :: 28 :: 28 :: 28 :: 28 :: 28 :: 28 :: 24 :: 30 :: 28 :: 28 :: 30 :: 28 :: 28 :: 28 :: 28 :: 28 :: 28 :: 28 :: 28 :: 30 :: 28 :: 28 :: 
  28 :: 28 :: 28 :: 28 :: 28 :: 28 :: 28 :: 6 :: 10 :: 10 :: 12 :: 13 :: 6 :: 8 :: 11 :: 10 :: 10 :: 8 :: 11 :: 8 :: 6 :: 6 :: 6 :: 5 :: 5 :: 5 :: 6 :: 
  6 :: 6 :: 6 :: 6 :: 6 :: 6 :: 7 :: 8 :: 15 :: 6 :: 12 :: 10 :: 13 :: 6 :: 7 :: 7 :: 7 :: 7 :: 7 :: 7 :: 7 :: 7 :: 7 :: 7 :: 7 :: 7 :: 7 :: 7 :: 7 :: 7 :: 
  7 :: 7 :: 7 :: 7 :: 7 :: 7 :: 8 :: 7 :: 8 :: 13 :: 19 :: 13 :: 14 :: 6 :: 15 :: 5 :: 6 :: 5 :: 6 :: 5 :: 6 :: 6 :: 6 :: 5 :: 7 :: 7 :: 6 :: 6 :: 6 :: 
  5 :: 6 :: 7 :: 6 :: 5 :: 5 :: 6 :: 7 :: 7 :: 7 :: 7 :: 7 :: 15 :: 11 :: 14 :: 13 :: 28 :: 20 :: 22 :: 20 :: 20 :: 22 :: 22 :: 22 :: 23 :: 22 :: 23 :: 
  23 :: 23 :: 23 :: 23 :: 24 :: 23 :: 24 :: 24 :: 22 :: 23 :: 24 :: 23 :: 23 :: 23 :: 23 :: 21 :: 22 :: 23 :: 22 :: 23 :: 23 :: 24 :: 22 :: 21 :: 20 :: 
  22 :: 22 :: 23 :: 23 :: 21 :: 23 :: 22 :: 22 :: 24 :: 21 :: 22 :: 23 :: 23 :: 21 :: 21 :: 22 :: 21 :: 23 :: 22 :: 23 :: 23 :: 20 :: 22 :: 22 :: 22 :: 
  23 :: 22 :: 22 :: 23 :: 26 :: 26 :: 20 :: 19 :: 22 :: 23 :: 22 :: 25 :: 26 :: 26 :: 26 :: 27 :: 27 :: 26 :: 24 :: 25 :: 19 :: 21 :: 26 :: 27 :: 27 :: 
  26 :: 27 :: 24 :: 21 :: 21 :: 26 :: 26 :: 28 :: 27 :: 27 :: 27 :: 20 :: 24 :: 20 :: 21 :: 22 :: 21 :: 21 :: 23 :: 22 :: 22 :: 25 :: 25 :: 24 :: 24 :: 
  26 :: 23 :: 26 :: 27 :: 26 :: 26 :: 27 :: 27 :: 27 :: 27 :: 27 :: 28 :: 27 :: 27 :: 27 :: 27 :: 27 :: 26 :: 30 :: []
def txt (n : Nat) : List UInt8 := if n < 10 then UInt8.ofNat (48 + n) :: [] else UInt8.ofNat (48 + n / 10) :: UInt8.ofNat (48 + n % 10) :: []
def parts : List (List UInt8) := lens.map txt
def strs : List ByteArray := parts.map fun q => ⟨q.toArray⟩
set_option maxRecDepth 100000 in
theorem parts_bar : ∀ q ∈ parts, (32 : UInt8) ∉ q := by decide +kernel
set_option maxRecDepth 100000 in
theorem lens_len : lens.length = 257 := by decide +kernel
set_option maxRecDepth 100000 in
theorem parts_len : parts.length = 257 := by decide +kernel
theorem strs_len : strs.length = 257 := by unfold strs; rw [List.length_map, parts_len]
set_option maxRecDepth 100000 in
theorem atoi_all : ∀ n ∈ lens, Lib.atoi (txt n) = some (n : Int) ∧ (txt n).length ≤ 18 := by decide +kernel
theorem str_at (k : Nat) (h : k < 257) : Lib.atoi (strs.getD k ByteArray.empty).data.toList = some ((lens.getD k 0 : Nat) : Int) ∧ (strs.getD k ByteArray.empty).size ≤ 18 := by
  have hl := lens_len
  have hk : k < lens.length := by omega
  have e : strs.getD k ByteArray.empty = ⟨(txt lens[k]).toArray⟩ := by
    simp [strs, parts, List.getD_eq_getElem?_getD, List.getElem?_eq_getElem hk]
  have e2 : lens.getD k 0 = lens[k] := by simp [List.getD_eq_getElem?_getD, List.getElem?_eq_getElem hk]
  obtain ⟨h1, h2⟩ := atoi_all _ (List.getElem_mem hk)
  rw [e, e2]
  refine ⟨h1, ?_⟩
  show (txt lens[k]).toArray.size ≤ 18
  rw [List.size_toArray]
  exact h2
theorem split_text (s : ByteArray) (hs : s.data.toList = bar parts) : Lib.countB s (⟨#[32]⟩ : ByteArray) = 256 ∧ Lib.splitB (⟨#[32]⟩ : ByteArray) 0 256 s = strs := by
  obtain ⟨p, ps, hp⟩ : ∃ p ps, parts = p :: ps := ⟨_, _, rfl⟩
  have hall : ∀ q ∈ p :: ps, (32 : UInt8) ∉ q := by rw [← hp]; exact parts_bar
  have htl : ps.length = 256 := by
    have := parts_len
    rw [hp, List.length_cons] at this
    omega
  have e2 : (ByteArray.mk #[32]).data.toList = [32] := rfl
  have hc : Lib.countB s (⟨#[32]⟩ : ByteArray) = 256 := by
    show Lib.count s.data.toList [32] = 256
    rw [hs, hp]
    unfold Lib.count
    have := bar_length ps p
    rw [count_bar _ _ _ hall (by omega), htl]
  have hd := Lib.splitB_data (⟨#[32]⟩ : ByteArray) 0 256 s
  rw [e2, hs, hp] at hd
  have hk := split_bar ps p hall
  rw [htl] at hk
  rw [hk, ← hp] at hd
  refine ⟨hc, ?_⟩
  unfold strs
  rw [← hd, List.map_map]
  conv => lhs; rw [← List.map_id (Lib.splitB (⟨#[32]⟩ : ByteArray) 0 256 s)]
  apply List.map_congr_left
  intro x _
  apply bytes_ext
  simp
/-! The codes -/
/-- One round over all bytes: those of one length get the next codes. -/
def pass (size : Int) : List (Int × Int) → Int → List (Int × Int) × Int
  | [], nx => ([], nx)
  | (b, s) :: l, nx => if s = size then ((nx, s) :: (pass size l (wrap64 (nx + 1))).1, (pass size l (wrap64 (nx + 1))).2) else ((b, s) :: (pass size l nx).1, (pass size l nx).2)
/-- The codes of at most n bits, and the next one. -/
def upto : Nat → List (Int × Int) × Int
  | 0 => (lens.map (fun (n : Nat) => ((0 : Int), (n : Int))), 0)
  | n + 1 => pass ((n : Int) + 1) (upto n).1 (wrap64 ((upto n).2 * 2))
theorem pass_len (size : Int) (l : List (Int × Int)) : ∀ nx, (pass size l nx).1.length = l.length := by
  induction l with
  | nil => intro nx; rfl
  | cons p l ih =>
    intro nx
    obtain ⟨b, s⟩ := p
    unfold pass
    split
    · simp [ih]
    · simp [ih]
theorem pass_append (size : Int) (a b : List (Int × Int)) : ∀ nx, pass size (a ++ b) nx = ((pass size a nx).1 ++ (pass size b (pass size a nx).2).1, (pass size b (pass size a nx).2).2) := by
  induction a with
  | nil => intro nx; rfl
  | cons p a ih =>
    intro nx
    obtain ⟨x, s⟩ := p
    rw [List.cons_append]
    by_cases h : s = size
    · simp only [pass, if_pos h, ih, List.cons_append]
    · simp only [pass, if_neg h, ih, List.cons_append]
theorem upto_len (n : Nat) : (upto n).1.length = 257 := by
  induction n with
  | zero => unfold upto; rw [List.length_map, lens_len]
  | succ n ih => unfold upto; rw [pass_len, ih]
/-- The state inside a round: k bytes are done. -/
def midA (size : Int) (l : List (Int × Int)) (nx : Int) (k : Nat) : List (Int × Int) := (pass size (l.take k) nx).1 ++ l.drop k
def midN (size : Int) (l : List (Int × Int)) (nx : Int) (k : Nat) : Int := (pass size (l.take k) nx).2
theorem mid_zero (size : Int) (l : List (Int × Int)) (nx : Int) : midA size l nx 0 = l ∧ midN size l nx 0 = nx := ⟨rfl, rfl⟩
theorem mid_all (size : Int) (l : List (Int × Int)) (nx : Int) (k : Nat) (h : l.length ≤ k) : midA size l nx k = (pass size l nx).1 ∧ midN size l nx k = (pass size l nx).2 := by
  unfold midA midN
  rw [List.take_of_length_le h, List.drop_of_length_le h, List.append_nil]
  exact ⟨rfl, rfl⟩
theorem midA_len (size : Int) (l : List (Int × Int)) (nx : Int) (k : Nat) : (midA size l nx k).length = l.length := by
  unfold midA
  rw [List.length_append, pass_len, List.length_take, List.length_drop]
  omega
theorem midA_at (size : Int) (l : List (Int × Int)) (nx : Int) (k : Nat) (h : k < l.length) : (midA size l nx k).getD k (0, 0) = l.getD k (0, 0) := by
  unfold midA
  have h1 : (pass size (l.take k) nx).1.length = k := by rw [pass_len, List.length_take]; omega
  rw [List.getD_eq_getElem?_getD, List.getD_eq_getElem?_getD, List.getElem?_append_right (by omega), h1, Nat.sub_self, List.getElem?_drop]
  simp
theorem mid_succ (size : Int) (l : List (Int × Int)) (nx : Int) (k : Nat) (h : k < l.length) :
    ((l.getD k (0, 0)).2 = size → midA size l nx (k + 1) = (midA size l nx k).set k (midN size l nx k, (l.getD k (0, 0)).2) ∧ midN size l nx (k + 1) = wrap64 (midN size l nx k + 1)) ∧
    ((l.getD k (0, 0)).2 ≠ size → midA size l nx (k + 1) = midA size l nx k ∧ midN size l nx (k + 1) = midN size l nx k) := by
  have h1 : (pass size (l.take k) nx).1.length = k := by rw [pass_len, List.length_take]; omega
  have e : l.getD k (0, 0) = l[k] := by simp [List.getD_eq_getElem?_getD, List.getElem?_eq_getElem h]
  have et : l.take (k + 1) = l.take k ++ [l[k]] := by rw [List.take_succ_eq_append_getElem h]
  have ed : l.drop k = l[k] :: l.drop (k + 1) := List.drop_eq_getElem_cons h
  rw [e]
  unfold midA midN
  rw [et, pass_append, ed]
  generalize l[k] = p
  obtain ⟨b, s⟩ := p
  refine ⟨fun hs => ?_, fun hs => ?_⟩
  · have hs' : s = size := hs
    simp only [pass, if_pos hs']
    refine ⟨?_, trivial⟩
    rw [List.set_append_right _ _ (by omega), h1, Nat.sub_self]
    simp
  · have hs' : ¬ s = size := hs
    simp only [pass, if_neg hs']
    refine ⟨?_, trivial⟩
    simp
set_option maxRecDepth 100000 in
def codes : List (Int × Int) :=
  (8184, 13) :: (8388568, 23) :: (268435426, 28) :: (268435427, 28) :: (268435428, 28) :: (268435429, 28) :: (268435430, 28) :: (268435431, 28) :: 
  (268435432, 28) :: (16777194, 24) :: (1073741820, 30) :: (268435433, 28) :: (268435434, 28) :: (1073741821, 30) :: (268435435, 28) :: (268435436, 28) :: 
  (268435437, 28) :: (268435438, 28) :: (268435439, 28) :: (268435440, 28) :: (268435441, 28) :: (268435442, 28) :: (1073741822, 30) :: (268435443, 28) :: 
  (268435444, 28) :: (268435445, 28) :: (268435446, 28) :: (268435447, 28) :: (268435448, 28) :: (268435449, 28) :: (268435450, 28) :: (268435451, 28) :: 
  (20, 6) :: (1016, 10) :: (1017, 10) :: (4090, 12) :: (8185, 13) :: (21, 6) :: (248, 8) :: (2042, 11) :: (1018, 10) :: (1019, 10) :: (249, 8) :: 
  (2043, 11) :: (250, 8) :: (22, 6) :: (23, 6) :: (24, 6) :: (0, 5) :: (1, 5) :: (2, 5) :: (25, 6) :: (26, 6) :: (27, 6) :: (28, 6) :: (29, 6) :: 
  (30, 6) :: (31, 6) :: (92, 7) :: (251, 8) :: (32764, 15) :: (32, 6) :: (4091, 12) :: (1020, 10) :: (8186, 13) :: (33, 6) :: (93, 7) :: (94, 7) :: 
  (95, 7) :: (96, 7) :: (97, 7) :: (98, 7) :: (99, 7) :: (100, 7) :: (101, 7) :: (102, 7) :: (103, 7) :: (104, 7) :: (105, 7) :: (106, 7) :: (107, 7) :: 
  (108, 7) :: (109, 7) :: (110, 7) :: (111, 7) :: (112, 7) :: (113, 7) :: (114, 7) :: (252, 8) :: (115, 7) :: (253, 8) :: (8187, 13) :: (524272, 19) :: 
  (8188, 13) :: (16380, 14) :: (34, 6) :: (32765, 15) :: (3, 5) :: (35, 6) :: (4, 5) :: (36, 6) :: (5, 5) :: (37, 6) :: (38, 6) :: (39, 6) :: (6, 5) :: 
  (116, 7) :: (117, 7) :: (40, 6) :: (41, 6) :: (42, 6) :: (7, 5) :: (43, 6) :: (118, 7) :: (44, 6) :: (8, 5) :: (9, 5) :: (45, 6) :: (119, 7) :: 
  (120, 7) :: (121, 7) :: (122, 7) :: (123, 7) :: (32766, 15) :: (2044, 11) :: (16381, 14) :: (8189, 13) :: (268435452, 28) :: (1048550, 20) :: 
  (4194258, 22) :: (1048551, 20) :: (1048552, 20) :: (4194259, 22) :: (4194260, 22) :: (4194261, 22) :: (8388569, 23) :: (4194262, 22) :: (8388570, 23) :: 
  (8388571, 23) :: (8388572, 23) :: (8388573, 23) :: (8388574, 23) :: (16777195, 24) :: (8388575, 23) :: (16777196, 24) :: (16777197, 24) :: 
  (4194263, 22) :: (8388576, 23) :: (16777198, 24) :: (8388577, 23) :: (8388578, 23) :: (8388579, 23) :: (8388580, 23) :: (2097116, 21) :: (4194264, 22) :: 
  (8388581, 23) :: (4194265, 22) :: (8388582, 23) :: (8388583, 23) :: (16777199, 24) :: (4194266, 22) :: (2097117, 21) :: (1048553, 20) :: (4194267, 22) :: 
  (4194268, 22) :: (8388584, 23) :: (8388585, 23) :: (2097118, 21) :: (8388586, 23) :: (4194269, 22) :: (4194270, 22) :: (16777200, 24) :: (2097119, 21) :: 
  (4194271, 22) :: (8388587, 23) :: (8388588, 23) :: (2097120, 21) :: (2097121, 21) :: (4194272, 22) :: (2097122, 21) :: (8388589, 23) :: (4194273, 22) :: 
  (8388590, 23) :: (8388591, 23) :: (1048554, 20) :: (4194274, 22) :: (4194275, 22) :: (4194276, 22) :: (8388592, 23) :: (4194277, 22) :: (4194278, 22) :: 
  (8388593, 23) :: (67108832, 26) :: (67108833, 26) :: (1048555, 20) :: (524273, 19) :: (4194279, 22) :: (8388594, 23) :: (4194280, 22) :: 
  (33554412, 25) :: (67108834, 26) :: (67108835, 26) :: (67108836, 26) :: (134217694, 27) :: (134217695, 27) :: (67108837, 26) :: (16777201, 24) :: 
  (33554413, 25) :: (524274, 19) :: (2097123, 21) :: (67108838, 26) :: (134217696, 27) :: (134217697, 27) :: (67108839, 26) :: (134217698, 27) :: 
  (16777202, 24) :: (2097124, 21) :: (2097125, 21) :: (67108840, 26) :: (67108841, 26) :: (268435453, 28) :: (134217699, 27) :: (134217700, 27) :: 
  (134217701, 27) :: (1048556, 20) :: (16777203, 24) :: (1048557, 20) :: (2097126, 21) :: (4194281, 22) :: (2097127, 21) :: (2097128, 21) :: 
  (8388595, 23) :: (4194282, 22) :: (4194283, 22) :: (33554414, 25) :: (33554415, 25) :: (16777204, 24) :: (16777205, 24) :: (67108842, 26) :: 
  (8388596, 23) :: (67108843, 26) :: (134217702, 27) :: (67108844, 26) :: (67108845, 26) :: (134217703, 27) :: (134217704, 27) :: (134217705, 27) :: 
  (134217706, 27) :: (134217707, 27) :: (268435454, 28) :: (134217708, 27) :: (134217709, 27) :: (134217710, 27) :: (134217711, 27) :: (134217712, 27) :: 
  (67108846, 26) :: (1073741823, 30) :: []
set_option maxRecDepth 100000 in
theorem codes_upto : (upto 30).1 = codes := by decide +kernel
set_option maxRecDepth 100000 in
theorem codes_len : codes.length = 257 := by decide +kernel
set_option maxRecDepth 100000 in
theorem codes_lens : codes.map (fun p => p.2) = lens.map (fun (n : Nat) => (n : Int)) := by decide +kernel
/-- What the texts' loop has read: k lengths. -/
def readA (k : Nat) : List (Int × Int) := (lens.take k).map (fun (n : Nat) => ((0 : Int), (n : Int))) ++ List.replicate (257 - k) (0, 0)
theorem readA_len (k : Nat) (h : k ≤ 257) : (readA k).length = 257 := by
  have := lens_len
  unfold readA
  rw [List.length_append, List.length_map, List.length_take, List.length_replicate]
  omega
theorem readA_succ (k : Nat) (h : k < 257) : readA (k + 1) = (readA k).set k (0, ((lens.getD k 0 : Nat) : Int)) := by
  have hl := lens_len
  have hk : k < lens.length := by omega
  have e2 : lens.getD k 0 = lens[k] := by simp [List.getD_eq_getElem?_getD, List.getElem?_eq_getElem hk]
  have h1 : ((lens.take k).map (fun (n : Nat) => ((0 : Int), (n : Int)))).length = k := by rw [List.length_map, List.length_take]; omega
  unfold readA
  rw [e2, List.take_succ_eq_append_getElem hk, List.map_append, List.set_append_right _ _ (by omega), h1, Nat.sub_self]
  have e3 : 257 - k = (257 - (k + 1)) + 1 := by omega
  rw [e3, List.replicate_succ, List.set_cons_zero, List.append_assoc]
  rfl
theorem readA_zero : readA 0 = List.replicate 257 (0, 0) := rfl
theorem readA_at (k : Nat) (h : k < 257) : (readA k).getD k (0, 0) = (0, 0) := by
  have hl := lens_len
  have h1 : ((lens.take k).map (fun (n : Nat) => ((0 : Int), (n : Int)))).length = k := by rw [List.length_map, List.length_take]; omega
  unfold readA
  rw [List.getD_eq_getElem?_getD, List.getElem?_append_right (by omega), h1, Nat.sub_self]
  rw [List.getElem?_replicate, if_pos (by omega)]
  rfl
theorem readA_all : readA 257 = (upto 0).1 := by
  have hl := lens_len
  unfold readA upto
  rw [List.take_of_length_le (by omega)]
  simp
/-! A block that holds such a list -/
def cellsOf : List (Int × Int) → List Value
  | [] => []
  | p :: l => .int .i64 p.1 :: .int .i64 p.2 :: cellsOf l
theorem cellsOf_len (l : List (Int × Int)) : (cellsOf l).length = 2 * l.length := by
  induction l with
  | nil => rfl
  | cons p l ih => simp only [cellsOf, List.length_cons, ih]; omega
theorem cellsOf_bits (l : List (Int × Int)) : ∀ i, i < l.length → (cellsOf l)[2 * i]? = some (.int .i64 (l.getD i (0, 0)).1) := by
  induction l with
  | nil => intro i h; simp at h
  | cons p l ih =>
    intro i h
    cases i with
    | zero => simp [cellsOf]
    | succ i =>
      have e : 2 * (i + 1) = 2 * i + 1 + 1 := by omega
      rw [e, cellsOf, List.getElem?_cons_succ, List.getElem?_cons_succ, ih i (by simp at h; omega)]
      simp
theorem cellsOf_size (l : List (Int × Int)) : ∀ i, i < l.length → (cellsOf l)[2 * i + 1]? = some (.int .i64 (l.getD i (0, 0)).2) := by
  induction l with
  | nil => intro i h; simp at h
  | cons p l ih =>
    intro i h
    cases i with
    | zero => simp [cellsOf]
    | succ i =>
      have e : 2 * (i + 1) + 1 = (2 * i + 1) + 1 + 1 := by omega
      rw [e, cellsOf, List.getElem?_cons_succ, List.getElem?_cons_succ, ih i (by simp at h; omega)]
      simp
theorem cellsOf_set_bits (l : List (Int × Int)) (x : Int) : ∀ i, i < l.length → (cellsOf l).set (2 * i) (.int .i64 x) = cellsOf (l.set i (x, (l.getD i (0, 0)).2)) := by
  induction l with
  | nil => intro i h; simp at h
  | cons p l ih =>
    intro i h
    cases i with
    | zero => simp [cellsOf]
    | succ i =>
      have e : 2 * (i + 1) = 2 * i + 1 + 1 := by omega
      rw [e, cellsOf, List.set_cons_succ, List.set_cons_succ, ih i (by simp at h; omega), List.set_cons_succ, cellsOf]
      simp
theorem cellsOf_set_size (l : List (Int × Int)) (x : Int) : ∀ i, i < l.length → (cellsOf l).set (2 * i + 1) (.int .i64 x) = cellsOf (l.set i ((l.getD i (0, 0)).1, x)) := by
  induction l with
  | nil => intro i h; simp at h
  | cons p l ih =>
    intro i h
    cases i with
    | zero => simp [cellsOf]
    | succ i =>
      have e : 2 * (i + 1) + 1 = (2 * i + 1) + 1 + 1 := by omega
      rw [e, cellsOf, List.set_cons_succ, List.set_cons_succ, ih i (by simp at h; omega), List.set_cons_succ, cellsOf]
      simp
/-- Block g holds the list l as an array of the type t. -/
def Arr (t : Nat) (w : World) (g : Nat) (l : List (Int × Int)) : Prop := w.heap[g]? = some (.cells (cellsOf l).toArray t (0, 0))
section
variable {t : Nat} {w w1 : World} {g : Nat} {l : List (Int × Int)}
theorem Arr.bits (h : Arr t w g l) (i : Nat) (hi : i < l.length) : w.cell? ⟨g, i * 2, none⟩ = some (.int .i64 (l.getD i (0, 0)).1) := by
  rw [blk_cell h, Nat.mul_comm]
  simpa using cellsOf_bits l i hi
theorem Arr.size (h : Arr t w g l) (i : Nat) (hi : i < l.length) : w.cell? ⟨g, i * 2 + 1, none⟩ = some (.int .i64 (l.getD i (0, 0)).2) := by
  rw [blk_cell h, Nat.mul_comm]
  simpa using cellsOf_size l i hi
theorem Arr.free (h : Arr t w g l) (j : Nat) : w.frozen? ⟨g, j, none⟩ = false := blk_frozen h j
theorem Arr.set_bits (h : Arr t w g l) (i : Nat) (hi : i < l.length) (x : Int) : Arr t (w.setCell ⟨g, i * 2, none⟩ (.int .i64 x)) g (l.set i (x, (l.getD i (0, 0)).2)) := by
  have := blk_set h (2 * i) (.int .i64 x)
  unfold Arr
  rw [Nat.mul_comm, this, ← cellsOf_set_bits l x i hi]
  simp
theorem Arr.set_size (h : Arr t w g l) (i : Nat) (hi : i < l.length) (x : Int) : Arr t (w.setCell ⟨g, i * 2 + 1, none⟩ (.int .i64 x)) g (l.set i ((l.getD i (0, 0)).1, x)) := by
  have := blk_set h (2 * i + 1) (.int .i64 x)
  unfold Arr
  rw [Nat.mul_comm, this, ← cellsOf_set_size l x i hi]
  simp
theorem Arr.drewN (h : Arr t w g l) (n : Nat) : Arr t (w.drewN n) g l := h
theorem Arr.drew (h : Arr t w g l) : Arr t w.drew g l := h
theorem Arr.alloc (h : Arr t w g l) (o : Obj) : Arr t (w.alloc o) g l := ((Below.refl w.heap.size w).alloc (Nat.le_refl _) o |>.block g (blk_lt h)).trans h
theorem Arr.set_far (h : Arr t w g l) {p : Addr} (hp : g ≠ p.block) (u : Value) : Arr t (w.setCell p u) g l := blk_far h hp u
theorem Arr.grown (h : Arr t w g l) {row : Option Nat} (hg : w.grownBy w1 row) (hne : some g ≠ row) : Arr t w1 g l := blk_grown h hg hne
theorem Arr.lt (h : Arr t w g l) : g < w.heap.size := blk_lt h
theorem Arr.below (h : Arr t w g l) (hb : Below w.heap.size w w1) : Arr t w1 g l := (hb.block g h.lt).trans h
end
end Go.Proofs.YthflimnpiglgbaaDoor.LibLens
namespace Go.Proofs.YthflimnpiglgbaaDoor.LibCodes
open Go Go.RowKit Go.Proofs.YthflimnpiglgbaaDoorW.PrintWords Go.Proofs.YthflimnpiglgbaaDoor.LibLens
theorem run_alloc (w : World) : (Instr.alloc 62 true (.tuple #[])).run Tryd.prog w = .ok (.pointer (some ⟨w.heap.size, 0, none⟩)) (w.alloc (.cells (cellsOf (List.replicate 257 (0, 0))).toArray 62)) := by kernel_rfl
theorem split_calls (s : ByteArray) (m : Int) (w : World) (hm : w.cell? ⟨2, 0, none⟩ = some (.int .i64 m)) (hs : s.data.toList = bar parts) (hz : s.size < 4294967281) :
    Calls Tryd.prog 57 #[.string s, .string ⟨#[32]⟩] w fun e w' => ∃ b, e = .returned (.slice (some ⟨b, 0, none⟩) 257 257) ∧ w.heap.size ≤ b ∧ w'.heap[b]? = some (.cells (strs.map Value.string).toArray 9 (0, 0)) ∧ Below w.heap.size w w' := by
  obtain ⟨h1, h2⟩ := split_text s hs
  refine (Tryd.strings_Split s ⟨#[32]⟩ m w hz hm (by decide)).mono ?_
  rintro e w' ⟨rfl, rfl⟩
  rw [h1, h2]
  refine ⟨w.heap.size, rfl, Nat.le_refl _, ?_, (Below.refl _ w).alloc (Nat.le_refl _) _⟩
  exact (MapKept.heap_alloc w _).1
theorem atoi_calls (s : ByteArray) (n : Int) (hl : s.size ≤ 18) (h : Lib.atoi s.data.toList = some n) (w : World) :
    Calls Tryd.prog 58 #[.string s] w fun e w' => e = .returned (.tuple #[.int .i64 n, .nilIface]) ∧ Below w.heap.size w w' := by
  refine (Tryd.strconv_Atoi s n hl h w).mono ?_
  rintro e w' ⟨rfl, t, rfl⟩
  exact ⟨rfl, bytes_below (Below.refl _ w) (Nat.le_refl _) 5 t⟩
theorem wpList_alloc62 {ops : Array Oper} {rest : List Oper} {o : Oper} {a : Act} {w : World} {Q : Exit → Act → World → Prop} (hg : o.guard = none) (dst : Option Tmp) (hdst : o.dst = dst) (ho : o.op = .alloc 62)
    (h : ∀ g w1, w.heap.size ≤ g → Arr 62 w1 g (List.replicate 257 (0, 0)) → Below w.heap.size w w1 → w.heap.size + 1 = w1.heap.size → wpList Tryd.prog ops Q rest (a.put dst (.pointer (some ⟨g, 0, none⟩))) w1) : wpList Tryd.prog ops Q (o :: rest) a w := by
  refine Go.Great.wpList_runTo hg dst hdst (.pointer (some ⟨w.heap.size, 0, none⟩)) (w.alloc (.cells (cellsOf (List.replicate 257 (0, 0))).toArray 62)) ?_ (h _ _ (Nat.le_refl _) ?_ ((Below.refl _ w).alloc (Nat.le_refl _) _) ?_)
  · obtain ⟨d, op, ty, ps, af, gd⟩ := o
    obtain rfl : op = .alloc 62 := ho
    kernel_rfl
  · exact (MapKept.heap_alloc w _).1
  · generalize (cellsOf (List.replicate 257 (0, 0))).toArray = cs
    simp
set_option maxHeartbeats 1600000 in
set_option maxRecDepth 100000 in
theorem codesOf_calls (m : Int) (w : World) (hm : Aside0 (w.cell? ⟨2, 0, none⟩ = some (.int .i64 m))) :
    Calls Tryd.prog 41 #[] w fun e w' => ∃ g, e = .returned (.pointer (some ⟨g, 0, none⟩)) ∧ w.heap.size ≤ g ∧ Arr 62 w' g codes ∧ Below w.heap.size w w' := by
  go_enter Tryd.func41, Tryd.ntmps41
  go_wp2_with (first | ((with_reducible refine wpList_alloc62 rfl _ rfl rfl ?_); intro g w1 hg HA0 HB0 hz0) | (go_at_call 57; refine (split_calls _ m _ (pw_cell_below HB0 hm.out) (by kernel_rfl) (by decide +kernel)).mono ?_; rintro e w2 ⟨b, rfl, hb0, hS0, HB2⟩))
  have HA1 := HA0.below HB2
  have HB1 := below_then HB0 HB0.size HB2
  have hgb : g ≠ b := by have := HA0.lt; omega
  have HS : Aside0 (w2.heap[b]? = some (.cells (strs.map Value.string).toArray 9 (0, 0))) := ⟨hS0⟩
  have HG : Aside0 (w.heap.size ≤ g ∧ w.heap.size ≤ b) := ⟨hg, by have := HB0.size; omega⟩
  clear hz0 HA0 HB0 HB2 hS0 hb0 hg
  go_loopw [9] (fun v9 wr => ∃ k : Nat, k ≤ 257 ∧ v9 = .int .i64 k ∧ Aside0 (Arr 62 wr g (readA k)) ∧ Aside0 (wr.heap[b]? = some (.cells (strs.map Value.string).toArray 9 (0, 0))) ∧ Aside0 (Below w.heap.size w wr)) (fun v9 _ => 257 - (intOf v9).toNat)
  case atStart => exact ⟨0, by omega, rfl, ⟨by rw [readA_zero]; exact HA1⟩, HS, ⟨HB1⟩⟩
  case round =>
    clear HA1 HB1 HS
    obtain ⟨k, hk, rfl, HA, HS, HB⟩ := hrel
    by_cases hlt : k < 257
    · obtain ⟨s, hs⟩ : ∃ s, s = strs.getD k ByteArray.empty := ⟨_, rfl⟩
      obtain ⟨n, hn⟩ : ∃ n : Int, n = ((lens.getD k 0 : Nat) : Int) := ⟨_, rfl⟩
      have hcell : wr.cell? ⟨b, k, none⟩ = some (.string s) := by
        have hl := strs_len
        rw [blk_cell HS.out, hs]
        simp [List.getD_eq_getElem?_getD, List.getElem?_eq_getElem (show k < strs.length by omega)]
      have hat := str_at k hlt
      rw [← hs, ← hn] at hat
      have HT := Aside0.mk hat
      have HN := Aside0.mk hn
      clear hat hs hn
      go_wp2_with (go_at_call 58; refine (atoi_calls s n HT.out.2 HT.out.1 _).mono ?_; rintro e w3 ⟨rfl, HB3⟩; have HA3 := Aside0.mk (HA.out.below HB3); have HS3 := Aside0.mk (blk_below HS.out HB3); have hc3 := HA3.out.size k (by rw [readA_len k hk]; exact hlt); rw [readA_at k hlt] at hc3; have hf3 := HA3.out.free (k * 2 + 1); have HW3 := Aside0.mk HB3; clear HB3)
      go_roundw
      case rel =>
        refine ⟨k + 1, by omega, by go_num, ⟨?_⟩, ⟨?_⟩, ⟨?_⟩⟩
        · rw [readA_succ k hlt, ← HN.out]
          have := HA3.out.set_size k (by rw [readA_len k hk]; exact hlt) n
          rw [readA_at k hlt] at this
          exact this
        · exact blk_far HS3.out (by exact fun e => hgb e.symm) _
        · exact (below_then HB.out HB.out.size HW3.out).setCell (by exact HG.out.1) _
      case measure => simp [intOf]; omega
    · obtain rfl : k = 257 := by omega
      have HA1 := Aside0.mk HA.out
      rw [readA_all] at HA1
      clear HA HS
      go_wp2
      go_loopw [5, 4] (fun v5 v4 wr => ∃ s : Nat, s ≤ 30 ∧ v5 = .int .i64 ((s : Int) + 1) ∧ v4 = .int .i64 (upto s).2 ∧ Aside0 (Arr 62 wr g (upto s).1) ∧ Aside0 (Below w.heap.size w wr)) (fun v5 _ _ => 31 - (intOf v5).toNat)
      case atStart => exact ⟨0, by omega, rfl, rfl, HA1, HB⟩
      case round =>
        clear HA1 HB
        obtain ⟨s, hs, rfl, rfl, HA, HB⟩ := hrel
        by_cases hlt2 : s < 30
        · obtain ⟨l, hl⟩ : ∃ l, l = (upto s).1 := ⟨_, rfl⟩
          obtain ⟨n0, hn0⟩ : ∃ n0, n0 = (upto s).2 := ⟨_, rfl⟩
          have hll : l.length = 257 := by rw [hl, upto_len]
          rw [← hl] at HA
          rw [← hn0]
          have HU := Aside0.mk (And.intro hl hn0)
          have HL := Aside0.mk hll
          clear hl hn0 hll
          have hd : decide ((s : Int) + 1 ≤ 30) = true := decide_eq_true (by omega)
          go_wp2
          go_loopw [29, 4] (fun v29 v4 wr => ∃ k : Nat, k ≤ 257 ∧ v29 = .int .i64 k ∧ v4 = .int .i64 (midN ((s : Int) + 1) l (wrap64 (n0 * 2)) k) ∧ Aside0 (Arr 62 wr g (midA ((s : Int) + 1) l (wrap64 (n0 * 2)) k)) ∧ Aside0 (Below w.heap.size w wr)) (fun v29 _ _ => 257 - (intOf v29).toNat)
          case atStart => exact ⟨0, by omega, rfl, rfl, HA, HB⟩
          case round =>
            clear HA HB
            obtain ⟨k, hk, rfl, rfl, HA, HB⟩ := hrel
            by_cases hlt : k < 257
            · have hkl : k < l.length := by rw [HL.out]; exact hlt
              have hml : k < (midA ((s : Int) + 1) l (wrap64 (n0 * 2)) k).length := by rw [midA_len]; exact hkl
              obtain ⟨m1, m2⟩ := mid_succ ((s : Int) + 1) l (wrap64 (n0 * 2)) k hkl
              have hsz := HA.out.size k hml
              have hbt := HA.out.bits k hml
              rw [midA_at _ _ _ _ hkl] at hsz hbt
              have HM := Aside0.mk hml
              clear hml hkl
              obtain ⟨A0, hA0⟩ : ∃ A0, A0 = midA ((s : Int) + 1) l (wrap64 (n0 * 2)) k := ⟨_, rfl⟩
              obtain ⟨N0, hN0⟩ : ∃ N0, N0 = midN ((s : Int) + 1) l (wrap64 (n0 * 2)) k := ⟨_, rfl⟩
              have hpat : (A0.getD k (0, 0)) = l.getD k (0, 0) := by rw [hA0]; exact midA_at _ _ _ _ (by rw [HL.out]; exact hlt)
              rw [← hA0, ← hN0] at m1 m2
              rw [← hA0] at HA HM
              rw [← hN0]
              obtain ⟨p, hp⟩ : ∃ p, p = l.getD k (0, 0) := ⟨_, rfl⟩
              rw [← hp] at m1 m2 hsz hbt hpat
              have HPA := Aside0.mk hpat
              obtain ⟨b0, s0⟩ := p
              have hf := HA.out.free (k * 2)
              by_cases hs0 : s0 = (s : Int) + 1
              · have M := Aside0.mk (m1 hs0)
                clear m1 m2 hA0 hN0 hp hpat
                subst hs0
                go_wp2
                go_roundw
                case rel =>
                  refine ⟨k + 1, by omega, by go_num, ?_, ⟨?_⟩, ⟨?_⟩⟩
                  · rw [M.out.2]
                  · rw [M.out.1]
                    have := HA.out.set_bits k HM.out N0
                    rw [HPA.out] at this
                    exact this
                  · exact HB.out.setCell (by exact HG.out.1) _
                case measure => simp [intOf]; omega
              · have M := Aside0.mk (m2 hs0)
                have hb0 : (s0 == (s : Int) + 1) = false := beq_eq_false_iff_ne.2 hs0
                clear m1 m2 hA0 hN0 hp hpat
                go_wp2
                go_roundw
                case rel =>
                  refine ⟨k + 1, by omega, by go_num, ?_, ⟨?_⟩, HB⟩
                  · rw [M.out.2]
                  · rw [M.out.1]
                    exact HA.out
                case measure => simp [intOf]; omega
            · obtain rfl : k = 257 := by omega
              obtain ⟨e1, e2⟩ := mid_all ((s : Int) + 1) l (wrap64 (n0 * 2)) 257 (by rw [HL.out]; omega)
              have HE := Aside0.mk (And.intro e1 e2)
              clear e1 e2
              go_wp2
              go_roundw
              case rel =>
                have h1 := HU.out.1
                have h2 := HU.out.2
                have e : upto (s + 1) = pass ((s : Int) + 1) (upto s).1 (wrap64 ((upto s).2 * 2)) := rfl
                refine ⟨s + 1, by omega, by go_num, ?_, ⟨?_⟩, HB⟩
                · rw [e, ← h1, ← h2, HE.out.2]
                · rw [e, ← h1, ← h2]
                  have := HA.out
                  rw [HE.out.1] at this
                  exact this
              case measure => simp [intOf]; omega
        · obtain rfl : s = 30 := by omega
          have HA1 := Aside0.mk HA.out
          rw [codes_upto] at HA1
          go_wp2
          go_ret
          exact ⟨g, rfl, HG.out.1, HA1.out, HB.out⟩
end Go.Proofs.YthflimnpiglgbaaDoor.LibCodes
namespace Go.Proofs.YthflimnpiglgbaaDoor.LibHuff
open Go Go.RowKit Go.Proofs.YthflimnpiglgbaaDoorW.PrintWords Go.Proofs.YthflimnpiglgbaaDoorW.PrintLast Go.Proofs.YthflimnpiglgbaaDoorW.PrintMore Go.Proofs.YthflimnpiglgbaaDoor.LibLens Go.Proofs.YthflimnpiglgbaaDoor.LibCodes Go.Proofs.YthflimnpiglgbaaDoor.A
attribute [local go_sem] max2_int min2_int max_two min_two max_three min_three max_four min_four
def lensI : List Int := codes.map (fun p => p.2)
def bitsI : List Int := codes.map (fun p => p.1)
theorem lensI_len : lensI.length = 257 := by unfold lensI; rw [List.length_map, codes_len]
theorem bitsI_len : bitsI.length = 257 := by unfold bitsI; rw [List.length_map, codes_len]
theorem lensI_at (i : Int) (h : i.toNat < 257) : rd lensI i = (codes.getD i.toNat (0, 0)).2 := by
  have hl := codes_len
  simp [rd, lensI, List.getD_eq_getElem?_getD, List.getElem?_eq_getElem (show i.toNat < codes.length by omega)]
theorem bitsI_at (i : Int) (h : i.toNat < 257) : rd bitsI i = (codes.getD i.toNat (0, 0)).1 := by
  have hl := codes_len
  simp [rd, bitsI, List.getD_eq_getElem?_getD, List.getElem?_eq_getElem (show i.toNat < codes.length by omega)]
theorem code_cells {w : World} {g : Nat} (h : Arr 62 w g codes) (i : Int) (h1 : i.toNat < 257) :
    w.cell? ⟨g, i.toNat * 2, none⟩ = some (.int .i64 (rd bitsI i)) ∧ w.cell? ⟨g, i.toNat * 2 + 1, none⟩ = some (.int .i64 (rd lensI i)) := by
  have hl := codes_len
  rw [lensI_at i h1, bitsI_at i h1]
  exact ⟨h.bits _ (by omega), h.size _ (by omega)⟩
/-- The sum of the lengths of the first bytes' codes. -/
def hsum (s : ByteArray) : Nat → Int
  | 0 => 0
  | k + 1 => wrap64 (hsum s k + rd lensI (bt s k))
def hlen (s : ByteArray) : Int := wrap64 (Int.tdiv (wrap64 (hsum s s.size + 7)) 8)
set_option maxHeartbeats 1600000 in
set_option maxRecDepth 100000 in
theorem huffLen_calls (g : Nat) (s : ByteArray) (w : World) (hA : Arr 62 w g codes) (hs : s.size ≤ 140737488355328) :
    Calls Tryd.prog 42 #[.pointer (some ⟨g, 0, none⟩), .string s] w fun e w' => e = .returned (.int .i64 (hlen s)) ∧ Drawn0 w w' := by
  have HA := Aside0.mk hA
  have HD := Aside0.mk (Drawn0.refl w)
  clear hA
  go_enter Tryd.func42, Tryd.ntmps42
  go_wp2
  go_loopw [5, 6] (fun v5 v6 wr => ∃ k : Nat, k ≤ s.size ∧ v6 = .int .i64 k ∧ v5 = .int .i64 (hsum s k) ∧ Aside0 (Arr 62 wr g codes) ∧ Aside0 (Drawn0 w wr)) (fun _ v6 _ => s.size - (intOf v6).toNat)
  case atStart => exact ⟨0, by omega, rfl, rfl, HA, HD⟩
  case round =>
    clear HA HD
    obtain ⟨k, hk, rfl, rfl, HA, HD⟩ := hrel
    by_cases hlt : k < s.size
    · have hb := bt_range s (k : Int)
      have hx : ((s[k]'hlt).toNat : Int) = bt s (k : Int) := bt_at s (k : Int) hlt
      obtain ⟨x, hxx⟩ : ∃ x, x = bt s (k : Int) := ⟨_, rfl⟩
      rw [← hxx] at hb hx
      have hs1 : hsum s (k + 1) = wrap64 (hsum s k + rd lensI x) := by rw [hxx]; rfl
      have HS1 := Aside0.mk hs1
      clear hs1 hxx
      obtain ⟨hc0, hc1⟩ := code_cells HA.out x (by omega)
      have hb1 : decide (x < 257) = true := decide_eq_true (by omega)
      go_wp2
      go_quiet (fail)
      go_wp2
      go_roundw
      case rel => exact ⟨k + 1, by omega, by go_num, by rw [HS1.out], ⟨by (with_reducible repeat (first | apply Arr.drewN | apply Arr.drew)); exact HA.out⟩, ⟨by exact HD.out.step _⟩⟩
      case measure => simp [intOf]; omega
    · obtain rfl : k = s.size := by omega
      go_wp2
      go_ret
      exact ⟨rfl, HD.out⟩
end Go.Proofs.YthflimnpiglgbaaDoor.LibHuff
namespace Go.Proofs.YthflimnpiglgbaaDoor.LibL3
open Go Go.RowKit Go.Proofs.YthflimnpiglgbaaDoorW.PrintWords Go.Proofs.YthflimnpiglgbaaDoorW.PrintLast Go.Proofs.YthflimnpiglgbaaDoorW.PrintMore Go.Proofs.YthflimnpiglgbaaDoor.LibLens Go.Proofs.YthflimnpiglgbaaDoor.LibHuff Go.Proofs.YthflimnpiglgbaaDoor.A
set_option maxHeartbeats 1600000 in
set_option maxRecDepth 100000 in
theorem l3Lens_calls (w : World) : Calls Tryd.prog 39 #[] w fun e w' => ∃ v0_ : Value, e = .returned (v0_) ∧ Kd.R (Kd.int .i64) 3 w' w.heap.size (fun _ => True) v0_ lensI ∧ Below w.heap.size w w' := by
  have HB := Aside0.mk (Below.refl w.heap.size w)
  obtain ⟨xs, hxs⟩ : ∃ xs, xs = lensI := ⟨_, rfl⟩
  have HX := Aside0.mk hxs
  rw [← hxs]
  clear hxs
  go_enter Tryd.func39, Tryd.ntmps39
  go_wp2_with ((with_reducible refine gate_dst (N := 1) rfl ?_); refine Kd.R_lit (Kd.int .i64) (w0 := w) w.heap.size 3 rfl (N := 1) rfl (xs := xs) (inner := xs.map (Value.int .i64)) (ok := fun _ => True) (okp := fun _ => True) ?hr (Kd.reps_scalar _) (fun _ _ => trivial) trivial HB.out (Nat.le_refl _) (by rw [HX.out, lensI_len]; decide) ?_; (case hr => rw [HX.out]; kernel_rfl); intro v1 w1 ho hb hg hx; have HO := Aside0.mk ho; have HW := Aside0.mk hb; clear ho hb hg hx)
  go_ret
  exact ⟨_, rfl, HO.out, HW.out⟩
end Go.Proofs.YthflimnpiglgbaaDoor.LibL3
namespace Go.Proofs.YthflimnpiglgbaaDoor.LibHuffB
open Go Go.RowKit Go.Proofs.YthflimnpiglgbaaDoorW.PrintWords Go.Proofs.YthflimnpiglgbaaDoorW.PrintLast Go.Proofs.YthflimnpiglgbaaDoorW.PrintMore Go.Proofs.YthflimnpiglgbaaDoor.LibLens Go.Proofs.YthflimnpiglgbaaDoor.LibHuff Go.Proofs.YthflimnpiglgbaaDoor.A
attribute [local go_sem] max2_int min2_int max_two min_two max_three min_three max_four min_four
mutual
def hf0 : Nat → ByteArray → List Int → List Int → List Int → Int → Int → Int → Option (List Int)
 | 0, _, _, _, _, _, _, _ => none
 | k + 1, x0, x3, x4, x5, x6, x7, x8 => if x8 < (x0.size : Int) then (if 0 ≤ x8 then (if 0 ≤ (bt x0 x8) then (if (bt x0 x8) < (x3.length : Int) then (if 0 ≤ (IntKind.u64.wrap (rd x3 (bt x0 x8))) then (if (bt x0 x8) < (x4.length : Int) then (hf1 k x0 x3 x4 x5 (Go.bits .or .i64 (shl .i64 x6 (IntKind.u64.wrap (rd x3 (bt x0 x8)))) (rd x4 (bt x0 x8))) (wrap64 (x7 + (rd x3 (bt x0 x8)))) x8) else (none)) else (none)) else (none)) else (none)) else (none)) else (if x7 > 0 then (if 0 ≤ (IntKind.u64.wrap (wrap64 (8 - x7))) then (if x5.length < 140737488355328 then (some (x5 ++ [(Go.bits .or .i64 (shl .i64 x6 (IntKind.u64.wrap (wrap64 (8 - x7)))) (wrap64 ((shl .i64 1 (IntKind.u64.wrap (wrap64 (8 - x7)))) - 1))) % 256])) else (none)) else (none)) else (some x5))
def hf1 : Nat → ByteArray → List Int → List Int → List Int → Int → Int → Int → Option (List Int)
 | 0, _, _, _, _, _, _, _ => none
 | k + 1, x0, x3, x4, x5, x6, x7, x8 => if x7 ≥ 8 then (if 0 ≤ (IntKind.u64.wrap (wrap64 (x7 - 8))) then (if x5.length < 140737488355328 then (hf1 k x0 x3 x4 (x5 ++ [(shr .i64 x6 (IntKind.u64.wrap (wrap64 (x7 - 8)))) % 256]) (Go.bits .and .i64 x6 (wrap64 ((shl .i64 1 (IntKind.u64.wrap (wrap64 (x7 - 8)))) - 1))) (wrap64 (x7 - 8)) x8) else (none)) else (none)) else (hf0 k x0 x3 x4 x5 x6 x7 (wrap64 (x8 + 1)))
end
theorem hf_mono_l : ∀ k, (∀ y0 y1 y2 y3 y4 y5 y6, LeO (hf0 k y0 y1 y2 y3 y4 y5 y6) (hf0 (k + 1) y0 y1 y2 y3 y4 y5 y6)) ∧ (∀ y0 y1 y2 y3 y4 y5 y6, LeO (hf1 k y0 y1 y2 y3 y4 y5 y6) (hf1 (k + 1) y0 y1 y2 y3 y4 y5 y6))
 | 0 => ⟨fun _ _ _ _ _ _ _ r h => by simp [hf0] at h, fun _ _ _ _ _ _ _ r h => by simp [hf1] at h⟩
 | k + 1 => by
  obtain ⟨ih0, ih1⟩ := hf_mono_l k
  refine ⟨?_, ?_⟩
  · intro y0 y1 y2 y3 y4 y5 y6
    unfold hf0
    repeat' first
    | (with_reducible exact ih1 _ _ _ _ _ _ _)
    | (with_reducible exact LeO.refl _)
    | (with_reducible exact LeO.none _)
    | (with_reducible refine LeO.ite ?_ ?_)
  · intro y0 y1 y2 y3 y4 y5 y6
    unfold hf1
    repeat' first
    | (with_reducible exact ih0 _ _ _ _ _ _ _)
    | (with_reducible exact ih1 _ _ _ _ _ _ _)
    | (with_reducible exact LeO.refl _)
    | (with_reducible exact LeO.none _)
    | (with_reducible refine LeO.ite ?_ ?_)
theorem hf_mono (k : Nat) (s : ByteArray) (a b l : List Int) (x y z : Int) : LeO (hf0 k s a b l x y z) (hf0 (k + 1) s a b l x y z) := (hf_mono_l k).1 _ _ _ _ _ _ _
set_option maxHeartbeats 8000000 in
set_option maxRecDepth 100000 in
theorem huff_calls (k g : Nat) (P0_ : Nat → Prop) (u9000_ : Value) (l0 : List Int) (s : ByteArray) (r : List Int) (w0 w : World) (hB : Below w0.heap.size w0 w) (hA : Arr 62 w g codes) (ho0 : Kd.R (Kd.int .u8) 5 w w0.heap.size P0_ u9000_ l0) (h : hf0 k s lensI bitsI l0 0 0 0 = some r) :
    Calls Tryd.prog 44 #[.pointer (some ⟨g, 0, none⟩), u9000_, .string s] w fun e w' => ∃ v0_ : Value, e = .returned (v0_) ∧ Kd.R (Kd.int .u8) 5 w' w0.heap.size (fun k_ => (P0_ k_ ∨ w.heap.size ≤ k_)) v0_ r ∧ Below w0.heap.size w0 w' ∧ Kept w w' (fun k_ => P0_ k_) := by
  have HO := Aside0.mk (show Kd.R (Kd.int .u8) 5 w w0.heap.size (fun k_ => (P0_ k_ ∨ w.heap.size ≤ k_)) u9000_ l0 from Kd.R_mono ho0 (fun k_ hk => (.inl hk)))
  have HK := Aside0.mk (Kept.refl w (fun k_ => P0_ k_))
  have HW0 := Aside0.mk hB.size
  have HB := Aside0.mk hB
  have HA := Aside0.mk hA
  have H' := Aside0.mk h
  clear hB hA h ho0
  go_enter Tryd.func44, Tryd.ntmps44
  go_wp2
  go_loopg [1, 7, 8, 9] k (fun kq v1 v7 v8 v9 w' => ∃ (x5 : List Int) (x6 x7 x8 : Int), v7 = .int .i64 x6 ∧ v8 = .int .i64 x7 ∧ v9 = .int .i64 x8 ∧ Aside0 (hf0 kq s lensI bitsI x5 x6 x7 x8 = some r) ∧ Aside0 (kq ≤ k) ∧ Aside0 (Kd.R (Kd.int .u8) 5 w' w0.heap.size (fun k_ => (P0_ k_ ∨ w.heap.size ≤ k_)) v1 x5) ∧ Aside0 (Kept w w' (fun k_ => P0_ k_)) ∧ Aside0 (Below w0.heap.size w0 w') ∧ Aside0 (Arr 62 w' g codes))
  case atStart => exact ⟨l0, 0, 0, 0, rfl, rfl, rfl, H', ⟨Nat.le_refl _⟩, HO, HK, HB, HA⟩
  case round =>
    clear H' HO HK HB HA
    obtain ⟨x5, x6, x7, x8, rfl, rfl, rfl, HH, HK1, HO, HK, HB, HA⟩ := hrel
    cases gk with
    | zero => exact absurd HH.out (by simp [hf0])
    | succ k1 =>
      have H := HH.out
      clear HH
      simp only [hf0] at H
      by_cases c8 : x8 < (s.size : Int)
      · rw [if_pos c8] at H
        by_cases c9 : 0 ≤ x8
        · rw [if_pos c9] at H
          have hx : ∀ h, ((s[x8.toNat]'h).toNat : Int) = bt s x8 := bt_at s x8
          obtain ⟨x, hxx⟩ : ∃ x, x = bt s x8 := ⟨_, rfl⟩
          have hb := bt_range s x8
          rw [← hxx] at hb hx H
          rw [if_pos hb.1, if_pos (by rw [lensI_len]; omega)] at H
          have hb1 : decide (x < 257) = true := decide_eq_true (by omega)
          have hb0 : decide (0 ≤ x) = true := decide_eq_true (by omega)
          obtain ⟨hc0, hc1⟩ := code_cells HA.out x (by omega)
          obtain ⟨sz, hsz⟩ : ∃ sz, sz = rd lensI x := ⟨_, rfl⟩
          obtain ⟨bi, hbi⟩ : ∃ bi, bi = rd bitsI x := ⟨_, rfl⟩
          rw [← hsz] at H hc1
          rw [← hbi] at hc0 H
          obtain ⟨ji13, hji13⟩ : ∃ j_ : Int, (IntKind.u64.wrap sz) = j_ := ⟨_, rfl⟩
          rw [hji13] at H
          by_cases c14 : 0 ≤ ji13
          · rw [if_pos c14, if_pos (by rw [bitsI_len]; omega)] at H
            obtain ⟨ji15, hji15⟩ : ∃ j_ : Int, (shl .i64 x6 ji13) = j_ := ⟨_, rfl⟩
            rw [hji15] at H
            have hji15_ : (IntKind.i64.wrap (x6 * 2 ^ min ji13.toNat 64)) = ji15 := hji15
            have hji15y : (wrap64 (x6 * 2 ^ min ji13.toNat 64)) = ji15 := (i64_w _).symm.trans hji15_
            have H' := Aside0.mk H
            clear H hsz hbi hxx
            have c8b0 : decide (x8 < (s.size : Int)) = true := decide_eq_true c8
            have c9b0 : decide (0 ≤ x8) = true := decide_eq_true c9
            have C8 := Aside0.mk c8
            have C9 := Aside0.mk c9
            replace c8 := eq_true c8
            replace c9 := eq_true c9
            have c14b1 : decide (0 ≤ (ji13)) = true := decide_eq_true c14
            replace c14 := eq_true c14
            have hgl := HA.out.lt
            have hgn : g ≠ wr.heap.size := by omega
            go_wp2
            go_region
            all_goals go_wp2
            have n0_ := Aside0.mk (Kd.R_drew (Kd.R_alloc HO.out (.cells #[Value.int IntKind.i64 bi, Value.int IntKind.i64 sz] 47)))
            have n1_ := Aside0.mk (Kept.drew (Kept.alloc HK.out (.cells #[Value.int IntKind.i64 bi, Value.int IntKind.i64 sz] 47)))
            have n2_ := Aside0.mk (below_drew (HB.out.alloc HB.out.size (.cells #[Value.int IntKind.i64 bi, Value.int IntKind.i64 sz] 47)))
            have n3_ := Aside0.mk (Arr.drew (Arr.alloc HA.out (.cells #[Value.int IntKind.i64 bi, Value.int IntKind.i64 sz] 47)))
            clear HO HK HB HA hc0 hc1 hgl hgn
            go_loopg [1, 7, 8] k1 (fun kq v1 v7 v8 w' => ∃ (x5 : List Int) (x6 x7 : Int), v7 = .int .i64 x6 ∧ v8 = .int .i64 x7 ∧ Aside0 (hf1 kq s lensI bitsI x5 x6 x7 x8 = some r) ∧ Aside0 (kq ≤ k1) ∧ Aside0 (Kd.R (Kd.int .u8) 5 w' w0.heap.size (fun k_ => (P0_ k_ ∨ w.heap.size ≤ k_)) v1 x5) ∧ Aside0 (Kept w w' (fun k_ => P0_ k_)) ∧ Aside0 (Below w0.heap.size w0 w') ∧ Aside0 (Arr 62 w' g codes))
            case atStart => exact ⟨x5, _, _, by first | rfl | (rw [← hji15y]), rfl, H', ⟨Nat.le_refl _⟩, n0_, n1_, n2_, n3_⟩
            case round =>
              clear H' n0_ n1_ n2_ n3_ hji15 hji15_ hji15y hji13 hx hb hb0 hb1 c14 c14b1
              obtain ⟨x5, x6, x7, rfl, rfl, HH, HK2, HO, HK, HB, HA⟩ := hrel
              cases gk with
              | zero => exact absurd HH.out (by simp [hf1])
              | succ k2 =>
                have H := HH.out
                clear HH
                simp only [hf1] at H
                by_cases c21 : x7 ≥ 8
                · rw [if_pos c21] at H
                  have c21b0 : decide (8 ≤ x7) = true := decide_eq_true c21
                  clear c21
                  obtain ⟨ji22, hji22⟩ : ∃ j_ : Int, (IntKind.u64.wrap (wrap64 (x7 - 8))) = j_ := ⟨_, rfl⟩
                  rw [hji22] at H
                  by_cases c23 : 0 ≤ (ji22)
                  · rw [if_pos c23] at H
                    have c23b0 := eq_true c23
                    have c23b1 : decide (0 ≤ (ji22)) = true := decide_eq_true c23
                    clear c23
                    obtain ⟨ji24, hji24⟩ : ∃ j_ : Int, (shr .i64 x6 (ji22)) = j_ := ⟨_, rfl⟩
                    rw [hji24] at H
                    have hji24_ : (x6 / 2 ^ min (ji22).toNat 64) = ji24 := hji24
                    by_cases c25 : x5.length < 140737488355328
                    · rw [if_pos c25] at H
                      have LM := Aside0.mk c25
                      clear c25
                      obtain ⟨ji27, hji27⟩ : ∃ j_ : Int, (shl .i64 1 ji22) = j_ := ⟨_, rfl⟩
                      rw [hji27] at H
                      have hji27_ : (IntKind.i64.wrap (1 * 2 ^ min ji22.toNat 64)) = ji27 := hji27
                      have hji27y : (wrap64 (1 * 2 ^ min ji22.toNat 64)) = ji27 := (i64_w _).symm.trans hji27_
                      have hji27u : (IntKind.i64.wrap (2 ^ min ji22.toNat 64)) = ji27 := by have h_ := hji27_; rw [Int.one_mul] at h_; exact h_
                      have hji27w : (wrap64 (2 ^ min ji22.toNat 64)) = ji27 := by have h_ := hji27y; rw [Int.one_mul] at h_; exact h_
                      have H' := Aside0.mk H
                      clear H
                      go_wp2_with (first | ((with_reducible refine gate_builtin (b := .append) (xs := #[.tmp 41, .tmp 47]) rfl ?_); at_builtin; refine Kd.R_append (Kd.int .u8) (w0 := w0) w0.heap.size rfl (.tmp 41) (.tmp 47) 26 5 (.int .u8 0) 1 rfl Tryd.underlying26 info5 rfl (by decide) (by omega) u1 x5 (ji24 % 256) [.int .u8 (ji24 % 256)] (fun k_ => (P0_ k_ ∨ w.heap.size ≤ k_)) (fun _ => False) rfl rfl rfl (fun _ hk => hk.elim) (fun k_ hk => (.inr (Nat.le_trans HK.out.1 hk))) HO.out HB.out (below_size HB.out) (by have := LM.out; omega) ?_; intro v1 w1 ho hb hg hat; have n0_ := Aside0.mk ho; have n1_ := Aside0.mk (Kept.of_grown (S := (fun k_ => P0_ k_)) hg HK.out (fun k_ e_ => (HO.out.1 k_ e_))); have n2_ := Aside0.mk hb; have n3_ := Aside0.mk (Arr.grown HA.out hg (Kd.R_ne HO.out HA.out (by decide))); clear HO HK HB HA ho hb hg hat; have HO := n0_; have HK := n1_; have HB := n2_; have HA := n3_; clear n0_ n1_ n2_ n3_))
                      go_roundg k2
                      case measure => have := HK1.out; have := HK2.out; omega
                      case rel => exact ⟨_, _, _, by first | rfl | (simp; done) | (simp only [← hji27] <;> (first | rfl | simp)) | (simp [*]; done), by first | rfl | (simp; done) | (simp [*]; done), H', ⟨by have := HK1.out; have := HK2.out; omega⟩, HO, HK, HB, HA⟩
                    · rw [if_neg c25] at H
                      exact absurd H (by simp)
                  · rw [if_neg c23] at H
                    exact absurd H (by simp)
                · rw [if_neg c21] at H
                  have c21b0 : decide (8 ≤ x7) = false := decide_eq_false c21
                  clear c21
                  have H' := Aside0.mk H
                  clear H
                  go_wp2
                  go_roundg k2
                  case measure => have := HK1.out; have := HK2.out; omega
                  case rel => exact ⟨x5, x6, x7, _, rfl, rfl, rfl, H', ⟨by have := HK1.out; have := HK2.out; omega⟩, HO, HK, HB, HA⟩
          · rw [if_neg c14] at H
            exact absurd H (by simp)
        · rw [if_neg c9] at H
          exact absurd H (by simp)
      · rw [if_neg c8] at H
        have c8b0 : decide (x8 < (s.size : Int)) = false := decide_eq_false c8
        clear c8
        by_cases c29 : x7 > 0
        · rw [if_pos c29] at H
          have c29b0 : decide (0 < x7) = true := decide_eq_true c29
          clear c29
          obtain ⟨ji30, hji30⟩ : ∃ j_ : Int, (IntKind.u64.wrap (wrap64 (8 - x7))) = j_ := ⟨_, rfl⟩
          rw [hji30] at H
          by_cases c31 : 0 ≤ (ji30)
          · rw [if_pos c31] at H
            have c31b0 := eq_true c31
            have c31b1 : decide (0 ≤ (ji30)) = true := decide_eq_true c31
            clear c31
            obtain ⟨ji32, hji32⟩ : ∃ j_ : Int, (shl .i64 x6 ji30) = j_ := ⟨_, rfl⟩
            rw [hji32] at H
            have hji32_ : (IntKind.i64.wrap (x6 * 2 ^ min ji30.toNat 64)) = ji32 := hji32
            have hji32y : (wrap64 (x6 * 2 ^ min ji30.toNat 64)) = ji32 := (i64_w _).symm.trans hji32_
            obtain ⟨ji34, hji34⟩ : ∃ j_ : Int, (shl .i64 1 ji30) = j_ := ⟨_, rfl⟩
            rw [hji34] at H
            have hji34_ : (IntKind.i64.wrap (1 * 2 ^ min ji30.toNat 64)) = ji34 := hji34
            have hji34y : (wrap64 (1 * 2 ^ min ji30.toNat 64)) = ji34 := (i64_w _).symm.trans hji34_
            have hji34u : (IntKind.i64.wrap (2 ^ min ji30.toNat 64)) = ji34 := by have h_ := hji34_; rw [Int.one_mul] at h_; exact h_
            have hji34w : (wrap64 (2 ^ min ji30.toNat 64)) = ji34 := by have h_ := hji34y; rw [Int.one_mul] at h_; exact h_
            by_cases c35 : x5.length < 140737488355328
            · rw [if_pos c35] at H
              have LM := Aside0.mk c35
              clear c35
              obtain rfl := Option.some.inj H
              clear H
              go_wp2_with (first | ((with_reducible refine gate_builtin (b := .append) (xs := #[.tmp 60, .tmp 69]) rfl ?_); at_builtin; refine Kd.R_append (Kd.int .u8) (w0 := w0) w0.heap.size rfl (.tmp 60) (.tmp 69) 26 5 (.int .u8 0) 1 rfl Tryd.underlying26 info5 rfl (by decide) (by omega) u1 x5 ((Go.bits .or .i64 ji32 (wrap64 (ji34 - 1))) % 256) [.int .u8 ((Go.bits .or .i64 ji32 (wrap64 (ji34 - 1))) % 256)] (fun k_ => (P0_ k_ ∨ w.heap.size ≤ k_)) (fun _ => False) rfl rfl rfl (fun _ hk => hk.elim) (fun k_ hk => (.inr (Nat.le_trans HK.out.1 hk))) HO.out HB.out (below_size HB.out) (by have := LM.out; omega) ?_; intro v1 w1 ho hb hg hat; have n0_ := Aside0.mk ho; have n1_ := Aside0.mk (Kept.of_grown (S := (fun k_ => P0_ k_)) hg HK.out (fun k_ e_ => (HO.out.1 k_ e_))); have n2_ := Aside0.mk hb; have n3_ := Aside0.mk (Arr.grown HA.out hg (Kd.R_ne HO.out HA.out (by decide))); clear HO HK HB HA ho hb hg hat; have HO := n0_; have HK := n1_; have HB := n2_; have HA := n3_; clear n0_ n1_ n2_ n3_))
              go_ret
              exact ⟨_, rfl, HO.out, HB.out, HK.out⟩
            · rw [if_neg c35] at H
              exact absurd H (by simp)
          · rw [if_neg c31] at H
            exact absurd H (by simp)
        · rw [if_neg c29] at H
          have c29b0 : decide (0 < x7) = false := decide_eq_false c29
          clear c29
          obtain rfl := Option.some.inj H
          clear H
          go_wp2
          go_ret
          exact ⟨_, rfl, HO.out, HB.out, HK.out⟩
end Go.Proofs.YthflimnpiglgbaaDoor.LibHuffB
namespace Go.Proofs.YthflimnpiglgbaaDoor.LibMap
open Go Go.RowKit Go.Maps Go.ChangeShapes Go.WideShapes Go.Proofs.YthflimnpiglgbaaDoorW.PrintWords Go.Proofs.YthflimnpiglgbaaDoor.LibLens Go.Proofs.YthflimnpiglgbaaDoor.LibHuff
set_option maxRecDepth 100000 in
theorem laidOut : laidOutB Tryd.prog = true := by kernel_rfl
set_option maxRecDepth 100000 in
theorem row47 : (47 : TypeId) < Tryd.prog.types.size := of_decide_eq_true (by kernel_rfl)
set_option maxRecDepth 100000 in
theorem wide47 : (match Tryd.prog.underlying 47 with | some (.array _ _) | some (.struct _) => true | _ => false) = true := by rw [Tryd.underlying47]
set_option maxRecDepth 100000 in
theorem law : Keyed Tryd.prog 47 := Keyed.of_law (deep_law_laid laidOut (m := 2) (by omega) row47 (by kernel_rfl) wide47)
def agg (p : Int × Int) : Value := .agg #[.int .i64 p.1, .int .i64 p.2]
def wf (p : Int × Int) : Prop := (-9223372036854775808 ≤ p.1 ∧ p.1 ≤ 9223372036854775807) ∧ (-9223372036854775808 ≤ p.2 ∧ p.2 ≤ 9223372036854775807)
def kl (p : Int × Int) : Lit := .string (keyBytes [.int .i64 p.1, .int .i64 p.2])
theorem wf_i64 {x : Int} (h : -9223372036854775808 ≤ x ∧ x ≤ 9223372036854775807) : (Lit.int .i64 x).wf = true := by
  simp only [Lit.wf, IntKind.min, IntKind.max, IntKind.signed, IntKind.bits, Bool.and_eq_true, decide_eq_true_eq, if_true]
  omega
set_option maxRecDepth 100000 in
theorem cells3 : Tryd.prog.cellsOf 3 = 1 := by kernel_rfl
set_option maxRecDepth 100000 in
theorem cells47 : Tryd.prog.cellsOf 47 = 2 := by kernel_rfl
set_option maxRecDepth 100000 in
theorem keyT : Tryd.prog.keyType 47 = true := by kernel_rfl
theorem size_of {P : Program} {t : TypeId} (h : t < P.types.size) : ∃ n, P.types.size + 1 = n + 2 := by
  have h0 : 0 < P.types.size := Nat.lt_of_le_of_lt (Nat.zero_le t) h
  exact ⟨P.types.size - 1, by omega⟩
theorem sizeT : ∃ n, Tryd.prog.types.size + 1 = n + 2 := size_of row47
theorem key_of (p : Int × Int) (h : wf p) : keyOf Tryd.prog 47 (agg p) = some (kl p) := by
  obtain ⟨n, hn⟩ := sizeT
  unfold keyOf
  simp only [Tryd.underlying47]
  have hf : (agg p).formed Tryd.prog 47 = true := by simp [agg, Value.formed, Tryd.underlying47, cells47]
  rw [keyT, hf, hn]
  simp [agg, Value.cells, Program.keyLits, Tryd.underlying47, Tryd.underlying3, cells47, cells3, wf_i64 h.1, wf_i64 h.2, kl]
theorem kl_inj {p q : Int × Int} (hp : wf p) (hq : wf q) (h : kl p = kl q) : p = q := by
  have h1 := key_of p hp
  have h2 := key_of q hq
  rw [← h] at h2
  have := law.inj h1 h2
  obtain ⟨a, b⟩ := p
  obtain ⟨c, d⟩ := q
  simp [agg] at this
  rw [this.1, this.2]
theorem isKey (p : Int × Int) (h : wf p) : WideAt.IsKeyLit (kl p) := law.key (key_of p h)
/-- The last of the first k codes that is q. -/
def lookN (q : Int × Int) : Nat → Option Nat
  | 0 => none
  | k + 1 => if codes.getD k (0, 0) = q then some k else lookN q k
/-- The map behind k rounds. -/
def D : Nat → DataW Unit
  | 0 => .map []
  | k + 1 => (D k).put (kl (codes.getD k (0, 0))) (.lit (.int .i64 (k : Int)))
theorem codes_wf : ∀ p ∈ codes, wf p := by unfold wf; decide +kernel
theorem code_wf (k : Nat) : wf (codes.getD k (0, 0)) := by
  by_cases h : k < codes.length
  · have e : codes.getD k (0, 0) = codes[k] := by simp [List.getD_eq_getElem?_getD, List.getElem?_eq_getElem h]
    rw [e]
    exact codes_wf _ (List.getElem_mem h)
  · have e : codes.getD k (0, 0) = (0, 0) := by simp [List.getD_eq_getElem?_getD, List.getElem?_eq_none (show codes.length ≤ k by omega)]
    rw [e]
    unfold wf
    decide
theorem D_isMap (k : Nat) : IsMap (D k) := by
  induction k with
  | zero => exact ⟨[], rfl⟩
  | succ k ih => exact IsMap.put ih _ _
theorem D_has (q : Int × Int) (hq : wf q) (k : Nat) : Maps.has (D k) (kl q) = (lookN q k).isSome := by
  induction k with
  | zero => rfl
  | succ k ih =>
    unfold D lookN
    by_cases h : codes.getD k (0, 0) = q
    · rw [if_pos h, h]
      exact has_put_same (D_isMap k) (isKey q hq) _
    · rw [if_neg h, has_put_other (fun e => h (kl_inj (code_wf k) hq e.symm)), ih]
theorem D_at (q : Int × Int) (hq : wf q) (k : Nat) : (D k).atKey (kl q) (.lit (.int .i64 0)) = .lit (.int .i64 (((lookN q k).getD 0 : Nat) : Int)) := by
  induction k with
  | zero => rfl
  | succ k ih =>
    unfold D lookN
    by_cases h : codes.getD k (0, 0) = q
    · rw [if_pos h, h]
      exact atKey_put_same (D_isMap k) (isKey q hq) _ _
    · rw [if_neg h, atKey_put_other (fun e => h (kl_inj (code_wf k) hq e.symm)), ih]
def lookC (q : Int × Int) : Option Nat := lookN q 257
theorem lookN_lt (q : Int × Int) (k j : Nat) (h : lookN q k = some j) : j < k := by
  induction k with
  | zero => cases h
  | succ k ih =>
    unfold lookN at h
    by_cases e : codes.getD k (0, 0) = q
    · rw [if_pos e] at h; cases h; omega
    · rw [if_neg e] at h; have := ih h; omega
theorem zero3 (w : World) : (zeroValue 3).run Tryd.prog w = .ok (.int .i64 0) w := by kernel_rfl
end Go.Proofs.YthflimnpiglgbaaDoor.LibMap
namespace Go.Proofs.YthflimnpiglgbaaDoor.LibUnH
open Go Go.RowKit Go.Maps Go.Proofs.YthflimnpiglgbaaDoorW.PrintWords Go.Proofs.YthflimnpiglgbaaDoorW.PrintLast Go.Proofs.YthflimnpiglgbaaDoorW.PrintMore Go.Proofs.YthflimnpiglgbaaDoor.LibLens Go.Proofs.YthflimnpiglgbaaDoor.LibHuff Go.Proofs.YthflimnpiglgbaaDoor.LibMap Go.Proofs.YthflimnpiglgbaaDoor.A
attribute [local go_sem] max2_int min2_int max_two min_two max_three min_three max_four min_four
def bit (x i : Int) : Int := Go.bits .and .i64 (shr .i64 (wrap64 x) i) 1
def byteBits (x : Int) : Nat → List Int
  | 0 => []
  | i + 1 => bit x (i : Int) :: byteBits x i
def listBits : List Int → List Int
  | [] => []
  | x :: l => byteBits x 8 ++ listBits l
/-- What the bits decode to, from a state on: the code begun (its bits, how many) and what is there. -/
def uh : List Int → Int → Int → List Int → List Int
  | [], _, _, out => out
  | d :: ds, acc, n, out =>
    match lookC (Go.bits .or .i64 (wrap64 (acc * 2)) d, wrap64 (n + 1)) with
    | some j => if j = 256 then out else if wrap64 (n + 1) > 30 then out else uh ds 0 0 (out ++ [(j : Int) % 256])
    | none => if wrap64 (n + 1) > 30 then out else uh ds (Go.bits .or .i64 (wrap64 (acc * 2)) d) (wrap64 (n + 1)) out
theorem wf_or (a d n : Int) : wf (Go.bits .or .i64 a d, wrap64 n) := by
  unfold wf
  refine ⟨?_, ?_⟩
  · unfold Go.bits
    simp only [IntKind.wrap_i64]
    omega
  · unfold wrap64
    omega
theorem ne_map {P : Program} {w : World} {k : TypeId} {R : Value → Option (DataW Unit × List MemPlace)} {b n e base : Nat} {D : DataW Unit} {ok : Nat → Prop} {v : Value} {xs : List Int} (h : w.ownsMap P k R b n D) (ho : Kd.R (Kd.int .u8) e w base ok v xs) : some b ≠ v.ownBlock := by
  intro hb
  obtain ⟨inner, hown⟩ := Kd.R_own ho
  obtain ⟨cells, hc⟩ := own_typed hown b hb.symm
  obtain ⟨es, clock, hm, _⟩ := h
  rw [hc] at hm
  cases hm
set_option maxHeartbeats 8000000 in
set_option maxRecDepth 100000 in
theorem unHuff_calls (g : Nat) (A : Option Addr) (c : Nat) (l : List Int) (w : World) (hA : Arr 62 w g codes) (hr0 : Kd.C (Kd.int .u8) w A l.length l) (hc0 : l.length ≤ c) (hl : l.length ≤ 4294967296) :
    Calls Tryd.prog 47 #[.pointer (some ⟨g, 0, none⟩), .slice A l.length c] w fun e w' => e = .returned (.string (strOfNums (uh (listBits l) 0 0 []))) ∧ Below w.heap.size w w' := by
  have HA := Aside0.mk hA
  have HC := Aside0.mk hr0
  have HB := Aside0.mk (Below.refl w.heap.size w)
  have HL := Aside0.mk hl
  clear hA hr0 hl
  have hmm := @run_makeMap Tryd.prog
  go_enter Tryd.func47, Tryd.ntmps47
  go_wp2
  have n0_ : Aside0 ((w.alloc (.map #[] 0)).ownsMap Tryd.prog 47 (plainElem Tryd.prog 3) w.heap.size 0 (D 0)) := ⟨World.ownsMap_made _ _ _ _⟩
  have n1_ := Aside0.mk (HA.out.alloc (.map #[] 0))
  have n2_ := Aside0.mk (HB.out.alloc (Nat.le_refl _) (.map #[] 0))
  have HG := Aside0.mk HA.out.lt
  clear HA HB
  go_loopw [18] (fun v18 wr => ∃ k : Nat, k ≤ 257 ∧ v18 = .int .i64 k ∧ Aside0 (wr.ownsMap Tryd.prog 47 (plainElem Tryd.prog 3) w.heap.size k (D k)) ∧ Aside0 (Arr 62 wr g codes) ∧ Aside0 (Below w.heap.size w wr)) (fun v18 _ => 257 - (intOf v18).toNat)
  case atStart => exact ⟨0, by omega, rfl, n0_, n1_, n2_⟩
  case round =>
    clear n0_ n1_ n2_
    obtain ⟨k, hk, rfl, HM, HA, HB⟩ := hrel
    by_cases hlt : k < 257
    · have hcl := codes_len
      obtain ⟨⟨bi, sz⟩, hp⟩ : ∃ p, p = codes.getD k (0, 0) := ⟨_, rfl⟩
      have hc0 := HA.out.bits k (by omega)
      have hc1 := HA.out.size k (by omega)
      rw [← hp] at hc0 hc1
      have hw := code_wf k
      rw [← hp] at hw
      have HP := Aside0.mk hp
      have HW := Aside0.mk hw
      clear hp hcl hw
      have hgl := HA.out.lt
      have hgn : g ≠ wr.heap.size := by omega
      go_wp2
      go_region
      all_goals go_wp2_with (at_mapUpdate; refine wpList_mapUpdate_own _ rfl _ _ _ 72 rfl 47 3 law Tryd.underlying72 _ w.heap.size k (D k) rfl (HM.out.alloc _ : World.ownsMap _ _ _ _ _ _ _) (by unfold maxLen; omega) _ _ _ rfl rfl (key_of (bi, sz) HW.out) _ [] (plainElem_int Tryd.underlying3 (wf_i64 (by omega))) ?_; intro w1 hown1 hgrow1; have n0_ := Aside0.mk hown1; have HG1 := Aside0.mk hgrow1; clear hown1 hgrow1)
      go_roundw
      case rel =>
        refine ⟨k + 1, by omega, by go_num, ⟨?_⟩, ⟨?_⟩, ⟨?_⟩⟩
        · have e : D (k + 1) = (D k).put (kl (codes.getD k (0, 0))) (.lit (.int .i64 (k : Int))) := rfl
          rw [e, ← HP.out]
          exact n0_.out
        · exact Arr.grown (Arr.drew (Arr.alloc HA.out _)) HG1.out (by intro e; have := HG.out; simp at e; omega)
        · exact pw_below_grown (below_drew (HB.out.alloc HB.out.size _)) _ (by have := HB.out.size; simp [World.drew]; omega) HG1.out (fun k hk => by simp at hk; omega)
      case measure => simp [intOf]; omega
    · have hk7 : k = 257 := by omega
      have HM2 := Aside0.mk HM.out
      rw [hk7] at HM2
      have hd7 : decide ((k : Int) < 257) = false := decide_eq_false (by omega)
      clear HA HM hlt hk hk7
      go_wp2
      have n0_ : Aside0 ((wr.alloc (.cells #[Value.int IntKind.i64 0, Value.int IntKind.i64 0] 47)).heap[wr.heap.size]? = some (.cells #[Value.int IntKind.i64 0, Value.int IntKind.i64 0] 47 (0, 0))) := ⟨(MapKept.heap_alloc wr _).1⟩
      have n1_ := Aside0.mk (HM2.out.alloc (.cells #[Value.int IntKind.i64 0, Value.int IntKind.i64 0] 47))
      have n2_ := Aside0.mk (HB.out.alloc HB.out.size (.cells #[Value.int IntKind.i64 0, Value.int IntKind.i64 0] 47))
      have n3_ := Aside0.mk (show w.heap.size ≤ wr.heap.size ∧ w.heap.size ≠ wr.heap.size from ⟨HB.out.size, by have := HM2.out.lt; omega⟩)
      generalize wr.alloc (.cells #[Value.int IntKind.i64 0, Value.int IntKind.i64 0] 47) = w2 at n0_ n1_ n2_ ⊢
      generalize wr.heap.size = cb at n0_ n3_ ⊢
      clear HM2 HB
      go_loopw [30, 8] (fun v30 v8 wr => ∃ (j : Nat) (acc n : Int) (out : List Int), j ≤ l.length ∧ v30 = .int .i64 j ∧ Aside0 (Kd.R (Kd.int .u8) 5 wr w.heap.size (fun _ => True) v8 out) ∧ Aside0 (wr.heap[cb]? = some (.cells #[Value.int IntKind.i64 acc, Value.int IntKind.i64 n] 47 (0, 0))) ∧ Aside0 (wr.ownsMap Tryd.prog 47 (plainElem Tryd.prog 3) w.heap.size 257 (D 257)) ∧ Aside0 (Below w.heap.size w wr) ∧ Aside0 (out.length ≤ 8 * j) ∧ Aside0 (uh (listBits (l.drop j)) acc n out = uh (listBits l) 0 0 [])) (fun v30 _ _ => l.length - (intOf v30).toNat)
      case atStart => exact ⟨0, 0, 0, [], by omega, rfl, ⟨Kd.R_nil _ _ _ _ _⟩, n0_, n1_, n2_, ⟨by simp⟩, ⟨rfl⟩⟩
      case round =>
        clear n0_ n1_ n2_
        obtain ⟨j, acc, n, out, hj, rfl, HO, HX, HM, HB, HN, HU⟩ := hrel
        by_cases hlt : j < l.length
        · obtain ⟨x, hx⟩ : ∃ x, x = rd l (j : Int) := ⟨_, rfl⟩
          obtain ⟨ad, e0, hxc⟩ := Kd.at_int (Kd.C_below HC.out HB.out) (j : Int) (by omega) (by omega)
          subst e0
          rw [← hx, Int.toNat_natCast] at hxc
          have hd : listBits (l.drop j) = byteBits x 8 ++ listBits (l.drop (j + 1)) := by
            have e : l[j] = x := by rw [hx]; simp [rd, List.getD_eq_getElem?_getD, List.getElem?_eq_getElem hlt]
            rw [List.drop_eq_getElem_cons hlt, listBits, e]
          have HU2 := Aside0.mk HU.out
          rw [hd] at HU2
          have HX0 := Aside0.mk hx
          clear hd HU hx
          go_wp2
          have HN1 : Aside0 ((out.length : Int) ≤ 8 * (j : Int) + (7 - 7)) := ⟨by have := HN.out; omega⟩
          clear HN
          go_loopw [12, 8] (fun v12 v8 wr => ∃ (i acc n : Int) (out : List Int), -1 ≤ i ∧ i ≤ 7 ∧ v12 = .int .i64 i ∧ Aside0 (Kd.R (Kd.int .u8) 5 wr w.heap.size (fun _ => True) v8 out) ∧ Aside0 (wr.heap[cb]? = some (.cells #[Value.int IntKind.i64 acc, Value.int IntKind.i64 n] 47 (0, 0))) ∧ Aside0 (wr.ownsMap Tryd.prog 47 (plainElem Tryd.prog 3) w.heap.size 257 (D 257)) ∧ Aside0 (Below w.heap.size w wr) ∧ Aside0 ((out.length : Int) ≤ 8 * (j : Int) + (7 - i)) ∧ Aside0 (uh (byteBits x (i + 1).toNat ++ listBits (l.drop (j + 1))) acc n out = uh (listBits l) 0 0 [])) (fun v12 _ _ => (intOf v12 + 1).toNat)
          case atStart => exact ⟨7, acc, n, out, by omega, by omega, rfl, HO, HX, HM, HB, HN1, HU2⟩
          case round =>
            clear HO HX HM HB HN1 HU2
            obtain ⟨i, acc, n, out, hi0, hi1, rfl, HO, HX, HM, HB, HN, HU⟩ := hrel
            by_cases hi : 0 ≤ i
            · have ei : (i + 1).toNat = i.toNat + 1 := by omega
              have HU1 := HU.out
              rw [ei] at HU1
              have eb : byteBits x (i.toNat + 1) = bit x i :: byteBits x i.toNat := by
                show bit x (i.toNat : Int) :: byteBits x i.toNat = _
                rw [Int.toNat_of_nonneg hi]
              rw [eb, List.cons_append, uh] at HU1
              have ew : IntKind.u64.wrap i = i := by unfold IntKind.wrap; simp only [IntKind.signed, IntKind.bits, Bool.false_and, Bool.false_eq_true, if_false]; omega
              obtain ⟨d, hd⟩ : ∃ d, d = bit x i := ⟨_, rfl⟩
              rw [← hd] at HU1
              have hd' : Go.bits .and .i64 (shr .i64 (wrap64 x) i) 1 = d := hd.symm
              obtain ⟨s0, hs0⟩ : ∃ s0, s0 = shr .i64 (wrap64 x) i := ⟨_, rfl⟩
              rw [← hs0] at hd'
              have hs1 : wrap64 x / 2 ^ min i.toNat 64 = s0 := hs0.symm
              have hs2 : wrap64 x / 2 ^ i.toNat = s0 := by rw [← hs1]; congr 2; omega
              have hwf := wf_or (wrap64 (acc * 2)) d (n + 1)
              obtain ⟨a1, ha1⟩ : ∃ a1, a1 = Go.bits .or .i64 (wrap64 (acc * 2)) d := ⟨_, rfl⟩
              obtain ⟨m1, hm1⟩ : ∃ m1, m1 = wrap64 (n + 1) := ⟨_, rfl⟩
              rw [← ha1, ← hm1] at hwf HU1
              have ha1' := ha1.symm
              have hm1' := hm1.symm
              have HU2 := Aside0.mk HU1
              have HWF := Aside0.mk hwf
              have hc0 : wr.cell? ⟨cb, 0, none⟩ = some (.int .i64 acc) := by rw [blk_cell HX.out]; rfl
              have hc1 : wr.cell? ⟨cb, 1, none⟩ = some (.int .i64 n) := by rw [blk_cell HX.out]; rfl
              have hf0 : wr.frozen? ⟨cb, 0, none⟩ = false := blk_frozen HX.out 0
              have hf1 : wr.frozen? ⟨cb, 1, none⟩ = false := blk_frozen HX.out 1
              have b0_ := blk_set HX.out 0 (.int .i64 a1)
              have b1_ : ((wr.setCell ⟨cb, 0, none⟩ (.int .i64 a1)).setCell ⟨cb, 1, none⟩ (.int .i64 m1)).heap[cb]? = some (.cells #[Value.int IntKind.i64 a1, Value.int IntKind.i64 m1] 47 (0, 0)) := blk_set b0_ 1 (.int .i64 m1)
              have n0_ := Aside0.mk b1_
              have n1_ := Aside0.mk (Kd.R_set (Kd.R_set HO.out HX.out (by decide) 0 (.int .i64 a1)) b0_ (by decide) 1 (.int .i64 m1))
              have n2_ := Aside0.mk ((HM.out.setCell (a := ⟨cb, 0, none⟩) n3_.out.2 (.int .i64 a1)).setCell (a := ⟨cb, 1, none⟩) n3_.out.2 (.int .i64 m1))
              have n4_ := Aside0.mk ((HB.out.setCell (p := ⟨cb, 0, none⟩) n3_.out.1 (.int .i64 a1)).setCell (p := ⟨cb, 1, none⟩) n3_.out.1 (.int .i64 m1))
              clear hd hs0 hwf ha1 hm1 HU HU1 ei eb b0_ b1_ HO HX HM HB
              have hi' : decide (0 ≤ i) = true := decide_eq_true hi
              cases hlk : lookC (a1, m1) with
              | none =>
                have hH : Maps.has (D 257) (kl (a1, m1)) = false := by rw [D_has _ HWF.out]; unfold lookC at hlk; rw [hlk]; rfl
                have HH := Aside0.mk hH
                have HU := HU2.out
                rw [hlk] at HU
                simp only at HU
                by_cases hm30 : m1 > 30
                · have hm30' : decide (30 < m1) = true := decide_eq_true hm30
                  rw [if_pos hm30] at HU
                  have HU3 := Aside0.mk HU
                  clear HU hlk hH HU2
                  go_wp2_with (at_lookup; refine wpList_lookup_own_ok_int _ rfl _ _ 72 rfl 47 3 .i64 law Tryd.underlying72 Tryd.underlying3 (zero3 _) w.heap.size 257 (D 257) rfl n2_.out _ _ rfl (key_of (a1, m1) HWF.out) ?_; intro c1 hat hwc; rw [HH.out]; clear hat; clear hwc; generalize (wr.setCell ⟨cb, 0, none⟩ (.int .i64 a1)).setCell ⟨cb, 1, none⟩ (.int .i64 m1) = w3 at n0_ n1_ n2_ n4_ ⊢; have hx1 : w3.cell? ⟨cb, 1, none⟩ = some (.int .i64 m1) := (blk_cell n0_.out 1); have hcv := own_string (P := Tryd.prog) Tryd.underlying26 Tryd.underlying5 Tryd.underlying9 (Kd.own_of_R n1_.out))
                  go_ret
                  refine ⟨?_, n4_.out⟩
                  rw [HU3.out]; rfl
                · have hm30' : decide (30 < m1) = false := decide_eq_false hm30
                  rw [if_neg hm30] at HU
                  have HU3 := Aside0.mk HU
                  clear HU hlk hH HU2
                  go_wp2_with (at_lookup; refine wpList_lookup_own_ok_int _ rfl _ _ 72 rfl 47 3 .i64 law Tryd.underlying72 Tryd.underlying3 (zero3 _) w.heap.size 257 (D 257) rfl n2_.out _ _ rfl (key_of (a1, m1) HWF.out) ?_; intro c1 hat hwc; rw [HH.out]; clear hat; clear hwc; generalize (wr.setCell ⟨cb, 0, none⟩ (.int .i64 a1)).setCell ⟨cb, 1, none⟩ (.int .i64 m1) = w3 at n0_ n1_ n2_ n4_ ⊢; have hx1 : w3.cell? ⟨cb, 1, none⟩ = some (.int .i64 m1) := (blk_cell n0_.out 1); have hcv := own_string (P := Tryd.prog) Tryd.underlying26 Tryd.underlying5 Tryd.underlying9 (Kd.own_of_R n1_.out))
                  go_roundw
                  case rel => exact ⟨i - 1, a1, m1, out, by omega, by omega, by first | rfl | (simp; done) | go_num, n1_, n0_, n2_, n4_, ⟨by have := HN.out; omega⟩, ⟨by rw [show i - 1 + 1 = i by omega]; exact HU3.out⟩⟩
                  case measure => simp [intOf]; omega
              | some jj =>
                have hjj : jj < 257 := lookN_lt _ _ _ hlk
                have hH : Maps.has (D 257) (kl (a1, m1)) = true := by rw [D_has _ HWF.out]; unfold lookC at hlk; rw [hlk]; rfl
                have HH := Aside0.mk hH
                have HU := HU2.out
                rw [hlk] at HU
                simp only at HU
                obtain ⟨jz, hjz⟩ : ∃ jz : Int, jz = (jj : Int) := ⟨_, rfl⟩
                have HC1 : Aside0 (∀ c1 : Int, (D 257).atKey (kl (a1, m1)) (.lit (.int .i64 0)) = .lit (.int .i64 c1) → c1 = jz) := ⟨fun c1 h => by
                  rw [D_at _ HWF.out] at h
                  unfold lookC at hlk
                  rw [hlk] at h
                  simp at h
                  rw [hjz]
                  exact h.symm⟩
                rw [← hjz] at HU
                have hjr : 0 ≤ jz ∧ jz < 257 := by omega
                by_cases h256 : jj = 256
                · have hz : (jz == 256) = true := by rw [hjz, h256]; rfl
                  rw [if_pos h256] at HU
                  have HU3 := Aside0.mk HU
                  clear HU hlk hH HU2 hjz h256 hjj hjr
                  go_wp2_with (at_lookup; refine wpList_lookup_own_ok_int _ rfl _ _ 72 rfl 47 3 .i64 law Tryd.underlying72 Tryd.underlying3 (zero3 _) w.heap.size 257 (D 257) rfl n2_.out _ _ rfl (key_of (a1, m1) HWF.out) ?_; intro c1 hat hwc; rw [HH.out]; have hcc := (HC1.out _ hat).symm; subst hcc; clear hat; clear hwc; generalize (wr.setCell ⟨cb, 0, none⟩ (.int .i64 a1)).setCell ⟨cb, 1, none⟩ (.int .i64 m1) = w3 at n0_ n1_ n2_ n4_ ⊢; have hx1 : w3.cell? ⟨cb, 1, none⟩ = some (.int .i64 m1) := (blk_cell n0_.out 1); have hcv := own_string (P := Tryd.prog) Tryd.underlying26 Tryd.underlying5 Tryd.underlying9 (Kd.own_of_R n1_.out))
                  go_ret
                  refine ⟨?_, n4_.out⟩
                  rw [HU3.out]; rfl
                · have hz : (jz == 256) = false := by rw [beq_eq_false_iff_ne, hjz]; omega
                  rw [if_neg h256] at HU
                  by_cases hm30 : m1 > 30
                  · have hm30' : decide (30 < m1) = true := decide_eq_true hm30
                    rw [if_pos hm30] at HU
                    have HU3 := Aside0.mk HU
                    clear HU hlk hH HU2 hjz h256 hjj hjr
                    go_wp2_with (at_lookup; refine wpList_lookup_own_ok_int _ rfl _ _ 72 rfl 47 3 .i64 law Tryd.underlying72 Tryd.underlying3 (zero3 _) w.heap.size 257 (D 257) rfl n2_.out _ _ rfl (key_of (a1, m1) HWF.out) ?_; intro c1 hat hwc; rw [HH.out]; have hcc := (HC1.out _ hat).symm; subst hcc; clear hat; clear hwc; generalize (wr.setCell ⟨cb, 0, none⟩ (.int .i64 a1)).setCell ⟨cb, 1, none⟩ (.int .i64 m1) = w3 at n0_ n1_ n2_ n4_ ⊢; have hx1 : w3.cell? ⟨cb, 1, none⟩ = some (.int .i64 m1) := (blk_cell n0_.out 1); have hcv := own_string (P := Tryd.prog) Tryd.underlying26 Tryd.underlying5 Tryd.underlying9 (Kd.own_of_R n1_.out))
                    go_ret
                    refine ⟨?_, n4_.out⟩
                    rw [HU3.out]; rfl
                  · have hm30' : decide (30 < m1) = false := decide_eq_false hm30
                    rw [if_neg hm30] at HU
                    have HU3 := Aside0.mk HU
                    clear HU hlk hH HU2 hjz h256 hjj hjr
                    go_wp2_with (first | (at_lookup; refine wpList_lookup_own_ok_int _ rfl _ _ 72 rfl 47 3 .i64 law Tryd.underlying72 Tryd.underlying3 (zero3 _) w.heap.size 257 (D 257) rfl n2_.out _ _ rfl (key_of (a1, m1) HWF.out) ?_; intro c1 hat hwc; rw [HH.out]; have hcc := (HC1.out _ hat).symm; subst hcc; clear hat; clear hwc; generalize (wr.setCell ⟨cb, 0, none⟩ (.int .i64 a1)).setCell ⟨cb, 1, none⟩ (.int .i64 m1) = w3 at n0_ n1_ n2_ n4_ ⊢; have hx1 : w3.cell? ⟨cb, 1, none⟩ = some (.int .i64 m1) := (blk_cell n0_.out 1); have hcv := own_string (P := Tryd.prog) Tryd.underlying26 Tryd.underlying5 Tryd.underlying9 (Kd.own_of_R n1_.out)) | ((with_reducible refine gate_builtin (b := .append) (xs := #[.tmp 72, .tmp 75]) rfl ?_); at_builtin; refine Kd.R_append (Kd.int .u8) (w0 := w) w.heap.size rfl (.tmp 72) (.tmp 75) 26 5 (.int .u8 0) 1 rfl Tryd.underlying26 info5 rfl (by decide) (by omega) u8 out (jz % 256) [.int .u8 (jz % 256)] (fun _ => True) (fun _ => False) rfl rfl rfl (fun _ hk => hk.elim) (fun _ _ => trivial) n1_.out n4_.out n4_.out.size (by have := HN.out; have := HL.out; omega) ?_; intro v1 w4 ho hb hg hat; have m0_ := Aside0.mk ho; have m1_ := Aside0.mk hb; have m2_ := Aside0.mk (blk_grown n0_.out hg (Kd.R_ne n1_.out n0_.out (by decide))); have m3_ := Aside0.mk (n2_.out.kept hg (ne_map n2_.out n1_.out)); clear ho hb hg hat hcv hx1; have hy0 : w4.cell? ⟨cb, 0, none⟩ = some (.int .i64 a1) := (blk_cell m2_.out 0); have hy1 : w4.cell? ⟨cb, 1, none⟩ = some (.int .i64 m1) := (blk_cell m2_.out 1); have hg0 := blk_frozen m2_.out 0; have hg1 := blk_frozen m2_.out 1))
                    have b0_ := blk_set m2_.out 0 (.int .i64 0)
                    have b1_ : ((w4.setCell ⟨cb, 0, none⟩ (.int .i64 0)).setCell ⟨cb, 1, none⟩ (.int .i64 0)).heap[cb]? = some (.cells #[Value.int IntKind.i64 0, Value.int IntKind.i64 0] 47 (0, 0)) := blk_set b0_ 1 (.int .i64 0)
                    go_roundw
                    case rel => exact ⟨i - 1, 0, 0, out ++ [jz % 256], by omega, by omega, by first | rfl | (simp; done) | go_num, ⟨Kd.R_set (Kd.R_set m0_.out m2_.out (by decide) 0 (.int .i64 0)) b0_ (by decide) 1 (.int .i64 0)⟩, ⟨b1_⟩, ⟨(m3_.out.setCell (a := ⟨cb, 0, none⟩) n3_.out.2 (.int .i64 0)).setCell (a := ⟨cb, 1, none⟩) n3_.out.2 (.int .i64 0)⟩, ⟨(m1_.out.setCell (p := ⟨cb, 0, none⟩) n3_.out.1 (.int .i64 0)).setCell (p := ⟨cb, 1, none⟩) n3_.out.1 (.int .i64 0)⟩, ⟨by have := HN.out; simp; omega⟩, ⟨by rw [show i - 1 + 1 = i by omega]; exact HU3.out⟩⟩
                    case measure => simp [intOf]; omega
            · have hi' : decide (0 ≤ i) = false := decide_eq_false hi
              have hi1' : i = -1 := by omega
              have HU1 := HU.out
              rw [hi1', show ((-1 : Int) + 1).toNat = 0 from rfl, byteBits, List.nil_append] at HU1
              have HU2 := Aside0.mk HU1
              have HI := Aside0.mk hi1'
              clear HU1 HU hi1' hi
              have hll := HL.out
              go_wp2
              go_roundw
              case rel => exact ⟨j + 1, acc, n, out, by omega, by go_num, HO, HX, HM, HB, ⟨by have := HN.out; have := HI.out; omega⟩, HU2⟩
              case measure => simp [intOf]; omega
        · have hjl : j = l.length := by omega
          have HU1 := HU.out
          rw [hjl, List.drop_length, listBits, uh] at HU1
          have HU3 := Aside0.mk HU1
          have hcv := own_string (P := Tryd.prog) Tryd.underlying26 Tryd.underlying5 Tryd.underlying9 (Kd.own_of_R HO.out)
          have hlt' : decide (j < l.length) = false := decide_eq_false hlt
          clear HU1 HU hjl
          go_wp2
          go_ret
          refine ⟨?_, HB.out⟩
          rw [HU3.out]; rfl
end Go.Proofs.YthflimnpiglgbaaDoor.LibUnH
namespace Go.Proofs.YthflimnpiglgbaaDoor.LibWrap
open Go Go.RowKit Go.Maps Go.Proofs.YthflimnpiglgbaaDoorW.PrintWords Go.Proofs.YthflimnpiglgbaaDoorW.PrintLast Go.Proofs.YthflimnpiglgbaaDoorW.PrintMore Go.Proofs.YthflimnpiglgbaaDoor.LibLens Go.Proofs.YthflimnpiglgbaaDoor.LibCodes Go.Proofs.YthflimnpiglgbaaDoor.LibHuff Go.Proofs.YthflimnpiglgbaaDoor.LibHuffB Go.Proofs.YthflimnpiglgbaaDoor.LibMap Go.Proofs.YthflimnpiglgbaaDoor.LibUnH Go.Proofs.YthflimnpiglgbaaDoor.A
theorem inR (a b c : Int) (w : World) : Calls Tryd.prog 40 #[.int .i64 a, .int .i64 b, .int .i64 c] w fun e w' => e = .returned (.bool (decide (b ≤ a ∧ a ≤ c))) ∧ w = w' := by
  by_cases h : b ≤ a
  · by_cases h2 : a ≤ c
    · have e : decide (b ≤ a ∧ a ≤ c) = true := decide_eq_true ⟨h, h2⟩
      rw [e]
      have h1' : decide (b ≤ a) = true := decide_eq_true h
      have h2' : decide (a ≤ c) = true := decide_eq_true h2
      clear e
      go_enter Tryd.func40, Tryd.ntmps40
      go_wp2
      go_ret
      exact ⟨rfl, rfl⟩
    · have e : decide (b ≤ a ∧ a ≤ c) = false := decide_eq_false (fun hh => h2 hh.2)
      rw [e]
      have h1' : decide (b ≤ a) = true := decide_eq_true h
      have h2' : decide (a ≤ c) = false := decide_eq_false h2
      clear e
      go_enter Tryd.func40, Tryd.ntmps40
      go_wp2
      go_ret
      exact ⟨rfl, rfl⟩
  · have e : decide (b ≤ a ∧ a ≤ c) = false := decide_eq_false (fun hh => h hh.1)
    rw [e]
    have h1' : decide (b ≤ a) = false := decide_eq_false h
    clear e
    go_enter Tryd.func40, Tryd.ntmps40
    go_wp2
    go_ret
    exact ⟨rfl, rfl⟩
def codeLenF (n : Int) : Int := if 0 ≤ n ∧ n ≤ 256 then rd lensI n else 0
def codeOfF (n : Int) : Int := if 0 ≤ n ∧ n ≤ 256 then rd bitsI n else 0
set_option maxHeartbeats 1600000 in
set_option maxRecDepth 100000 in
theorem codeLen_calls (n : Int) (w : World) (hm : ∃ m, w.cell? ⟨2, 0, none⟩ = some (.int .i64 m)) :
    Calls Tryd.prog 15 #[.int .i64 n] w fun e w' => e = .returned (.int .i64 (codeLenF n)) ∧ Below w.heap.size w w' := by
  obtain ⟨m, hm⟩ := hm
  have HM := Aside0.mk hm
  clear hm
  by_cases h : 0 ≤ n ∧ n ≤ 256
  · have e : codeLenF n = rd lensI n := if_pos h
    have E := Aside0.mk e
    have hd : decide (0 ≤ n ∧ n ≤ 256) = true := decide_eq_true h
    have HD := Aside0.mk hd
    have h0 : decide (n < 257) = true := decide_eq_true (by omega)
    have h1 : decide (0 ≤ n) = true := decide_eq_true h.1
    clear e hd
    obtain ⟨h2, h3⟩ := h
    go_enter Tryd.func15, Tryd.ntmps15
    go_wp2_with (first | (go_at_call 40; (with_reducible refine (inR _ _ _ _).mono ?_); rintro e w' ⟨rfl, rfl⟩; rw [HD.out]) | (go_at_call 41; (with_reducible refine (codesOf_calls m _ HM).mono ?_); rintro e w1 ⟨g, rfl, hg, hA, hB⟩; obtain ⟨hc0, hc1⟩ := code_cells hA n (by omega); have HB := Aside0.mk hB; clear hA hB hg))
    go_ret
    exact ⟨by rw [E.out]; rfl, HB.out⟩
  · have e : codeLenF n = 0 := if_neg h
    have E := Aside0.mk e
    have hd : decide (0 ≤ n ∧ n ≤ 256) = false := decide_eq_false h
    have HD := Aside0.mk hd
    clear e hd h
    go_enter Tryd.func15, Tryd.ntmps15
    go_wp2_with (go_at_call 40; (with_reducible refine (inR _ _ _ _).mono ?_); rintro e w' ⟨rfl, rfl⟩; rw [HD.out])
    go_ret
    exact ⟨by rw [E.out]; rfl, Below.refl _ _⟩
set_option maxHeartbeats 1600000 in
set_option maxRecDepth 100000 in
theorem codeOf_calls (n : Int) (w : World) (hm : ∃ m, w.cell? ⟨2, 0, none⟩ = some (.int .i64 m)) :
    Calls Tryd.prog 19 #[.int .i64 n] w fun e w' => e = .returned (.int .i64 (codeOfF n)) ∧ Below w.heap.size w w' := by
  obtain ⟨m, hm⟩ := hm
  have HM := Aside0.mk hm
  clear hm
  by_cases h : 0 ≤ n ∧ n ≤ 256
  · have e : codeOfF n = rd bitsI n := if_pos h
    have E := Aside0.mk e
    have hd : decide (0 ≤ n ∧ n ≤ 256) = true := decide_eq_true h
    have HD := Aside0.mk hd
    have h0 : decide (n < 257) = true := decide_eq_true (by omega)
    have h1 : decide (0 ≤ n) = true := decide_eq_true h.1
    clear e hd
    obtain ⟨h2, h3⟩ := h
    go_enter Tryd.func19, Tryd.ntmps19
    go_wp2_with (first | (go_at_call 40; (with_reducible refine (inR _ _ _ _).mono ?_); rintro e w' ⟨rfl, rfl⟩; rw [HD.out]) | (go_at_call 41; (with_reducible refine (codesOf_calls m _ HM).mono ?_); rintro e w1 ⟨g, rfl, hg, hA, hB⟩; obtain ⟨hc0, hc1⟩ := code_cells hA n (by omega); have HB := Aside0.mk hB; clear hA hB hg))
    go_ret
    exact ⟨by rw [E.out]; rfl, HB.out⟩
  · have e : codeOfF n = 0 := if_neg h
    have E := Aside0.mk e
    have hd : decide (0 ≤ n ∧ n ≤ 256) = false := decide_eq_false h
    have HD := Aside0.mk hd
    clear e hd h
    go_enter Tryd.func19, Tryd.ntmps19
    go_wp2_with (go_at_call 40; (with_reducible refine (inR _ _ _ _).mono ?_); rintro e w' ⟨rfl, rfl⟩; rw [HD.out])
    go_ret
    exact ⟨by rw [E.out]; rfl, Below.refl _ _⟩
set_option maxHeartbeats 1600000 in
set_option maxRecDepth 100000 in
theorem HuffLen_calls (s : ByteArray) (w : World) (hm : ∃ m, w.cell? ⟨2, 0, none⟩ = some (.int .i64 m)) (hs : s.size ≤ 140737488355328) :
    Calls Tryd.prog 17 #[.string s] w fun e w' => e = .returned (.int .i64 (hlen s)) ∧ Below w.heap.size w w' := by
  obtain ⟨m, hm⟩ := hm
  have HM := Aside0.mk hm
  have HS := Aside0.mk hs
  clear hm hs
  go_enter Tryd.func17, Tryd.ntmps17
  go_wp2_with (first | (go_at_call 41; (with_reducible refine (codesOf_calls m _ HM).mono ?_); rintro e w1 ⟨g, rfl, hg, hA, hB⟩; have HA := Aside0.mk hA; have HB := Aside0.mk hB; clear hA hB hg) | (go_at_call 42; (with_reducible refine (huffLen_calls _ _ _ HA.out HS.out).mono ?_); rintro e w2 ⟨rfl, ⟨nd, rfl⟩⟩))
  go_ret
  exact ⟨rfl, pw_below_drewN HB.out _⟩
set_option maxHeartbeats 1600000 in
set_option maxRecDepth 100000 in
theorem Huff_calls (k : Nat) (s : ByteArray) (r : List Int) (w : World) (hm : ∃ m, w.cell? ⟨2, 0, none⟩ = some (.int .i64 m)) (h : hf0 k s lensI bitsI [] 0 0 0 = some r) :
    Calls Tryd.prog 23 #[.string s] w fun e w' => ∃ v0_ : Value, e = .returned (v0_) ∧ Kd.R (Kd.int .u8) 5 w' w.heap.size (fun _ => True) v0_ r ∧ Below w.heap.size w w' := by
  obtain ⟨m, hm⟩ := hm
  have HM := Aside0.mk hm
  have HH := Aside0.mk h
  clear hm h
  go_enter Tryd.func23, Tryd.ntmps23
  go_wp2_with (first | (go_at_call 41; (with_reducible refine (codesOf_calls m _ HM).mono ?_); rintro e w1 ⟨g, rfl, hg, hA, hB⟩; have HA := Aside0.mk hA; have HB := Aside0.mk hB; clear hA hB hg) | (go_at_call 44; (with_reducible refine (huff_calls k _ (fun _ => False) _ [] s r w _ HB.out HA.out (Kd.R_nil _ _ _ _ _) HH.out).mono ?_); rintro e w2 ⟨v, rfl, hR, hB2, hK2⟩; have HR := Aside0.mk hR; have HB2 := Aside0.mk hB2; clear hR hB2 hK2))
  go_ret
  exact ⟨_, rfl, Kd.R_mono HR.out (fun _ _ => trivial), HB2.out⟩
end Go.Proofs.YthflimnpiglgbaaDoor.LibWrap
namespace Go.Proofs.YthflimnpiglgbaaDoor.LibWrap2
open Go Go.RowKit Go.Maps Go.Proofs.YthflimnpiglgbaaDoorW.PrintWords Go.Proofs.YthflimnpiglgbaaDoorW.PrintLast Go.Proofs.YthflimnpiglgbaaDoorW.PrintMore Go.Proofs.YthflimnpiglgbaaDoor.LibLens Go.Proofs.YthflimnpiglgbaaDoor.LibCodes Go.Proofs.YthflimnpiglgbaaDoor.LibHuff Go.Proofs.YthflimnpiglgbaaDoor.LibHuffB Go.Proofs.YthflimnpiglgbaaDoor.LibMap Go.Proofs.YthflimnpiglgbaaDoor.LibUnH Go.Proofs.YthflimnpiglgbaaDoor.A
theorem bytesIn {w : World} {A : Option Addr} {l : List Int} (h : Kd.C (Kd.int .u8) w A l.length l) : Lib.BytesIn w A l.length l := by
  obtain ⟨h1, h2, h3⟩ := Kd.reads_of_C (enc := Value.int .u8) (d := (0 : Int)) (h1 := fun _ => rfl) h
  intro h0
  obtain ⟨ad, rfl, hc⟩ := h3 h0
  exact Lib.BytesIn.of_cells (xs := l) (fun i hi => hc i hi) h0
def unF (k : Nat) (l : List Int) : Option (ByteArray × Bool) :=
  if l.length ≤ 4294967296 then (hf0 k (strOfNums (uh (listBits l) 0 0 [])) lensI bitsI [] 0 0 0).bind fun h => some (if (Lib.bytesOf h == Lib.bytesOf l) = true then (strOfNums (uh (listBits l) 0 0 []), true) else (⟨#[]⟩, false)) else none
theorem unF_mono (k : Nat) (l : List Int) : LeO (unF k l) (unF (k + 1) l) := by
  unfold unF
  refine LeO.ite (LeO.bind (hf_mono _ _ _ _ _ _ _ _) (fun _ => LeO.refl _)) (LeO.none _)
set_option maxHeartbeats 1600000 in
set_option maxRecDepth 100000 in
theorem UnHuff_calls (k : Nat) (A : Option Addr) (c : Nat) (l : List Int) (r1 : ByteArray) (r2 : Bool) (w : World) (hm : ∃ m, w.cell? ⟨2, 0, none⟩ = some (.int .i64 m)) (hr0 : Kd.C (Kd.int .u8) w A l.length l) (hc0 : l.length ≤ c) (h : unF k l = some (r1, r2)) :
    Calls Tryd.prog 28 #[.slice A l.length c] w fun e w' => e = .returned (.tuple #[.string r1, .bool r2]) ∧ Below w.heap.size w w' := by
  obtain ⟨m, hm⟩ := hm
  have HM := Aside0.mk hm
  have HC := Aside0.mk hr0
  clear hm hr0
  unfold unF at h
  by_cases hl : l.length ≤ 4294967296
  · rw [if_pos hl] at h
    obtain ⟨x, hx, h2⟩ := Option.bind_eq_some_iff.mp h
    obtain ⟨s, hs⟩ : ∃ s, s = strOfNums (uh (listBits l) 0 0 []) := ⟨_, rfl⟩
    rw [← hs] at hx h2
    have HX := Aside0.mk hx
    have HS := Aside0.mk hs
    have HL := Aside0.mk hl
    clear h hx hs hl
    have hcc := Aside0.mk hc0
    cases hq : (Lib.bytesOf x == Lib.bytesOf l) with
    | true =>
      rw [hq, if_pos rfl] at h2
      obtain ⟨rfl, rfl⟩ := Prod.mk.inj (Option.some.inj h2)
      have HQ := Aside0.mk hq
      clear hq h2
      go_enter Tryd.func28, Tryd.ntmps28
      go_wp2_with (first | (go_at_call 41; (with_reducible refine (codesOf_calls m _ HM).mono ?_); rintro e w1 ⟨g, rfl, hg, hA, hB⟩; have HA := Aside0.mk hA; have HB := Aside0.mk hB; clear hA hB hg) | (go_at_call 47; (with_reducible refine (unHuff_calls _ A c l _ HA.out (Kd.C_below HC.out HB.out) hcc.out HL.out).mono ?_); rintro e w2 ⟨rfl, hB2⟩; rw [← HS.out]; have HB2 := Aside0.mk (below_then HB.out HB.out.size hB2); have HA2 := Aside0.mk (HA.out.below hB2); clear hB2) | (go_at_call 44; (with_reducible refine (huff_calls k _ (fun _ => False) _ [] _ x w _ HB2.out HA2.out (Kd.R_nil _ _ _ _ _) HX.out).mono ?_); rintro e w3 ⟨v, rfl, hR, hB3, hK3⟩; obtain ⟨A3, c3, rfl⟩ := Kd.R_slice hR; have HR := Aside0.mk hR; have HB3 := Aside0.mk hB3; clear hR hB3 hK3) | (go_at_call 48; (with_reducible refine (Tryd.bytes_Equal_all _ _ _ _ _ _ x l _ rfl rfl (bytesIn (Kd.R_reads' HR.out).2.2) (bytesIn (Kd.C_below HC.out HB3.out))).mono ?_); rintro e w4 ⟨rfl, rfl⟩; rw [HQ.out]))
      go_ret2
      exact ⟨rfl, HB3.out⟩
    | false =>
      rw [hq, if_neg (by decide)] at h2
      obtain ⟨rfl, rfl⟩ := Prod.mk.inj (Option.some.inj h2)
      have HQ := Aside0.mk hq
      clear hq h2
      go_enter Tryd.func28, Tryd.ntmps28
      go_wp2_with (first | (go_at_call 41; (with_reducible refine (codesOf_calls m _ HM).mono ?_); rintro e w1 ⟨g, rfl, hg, hA, hB⟩; have HA := Aside0.mk hA; have HB := Aside0.mk hB; clear hA hB hg) | (go_at_call 47; (with_reducible refine (unHuff_calls _ A c l _ HA.out (Kd.C_below HC.out HB.out) hcc.out HL.out).mono ?_); rintro e w2 ⟨rfl, hB2⟩; rw [← HS.out]; have HB2 := Aside0.mk (below_then HB.out HB.out.size hB2); have HA2 := Aside0.mk (HA.out.below hB2); clear hB2) | (go_at_call 44; (with_reducible refine (huff_calls k _ (fun _ => False) _ [] _ x w _ HB2.out HA2.out (Kd.R_nil _ _ _ _ _) HX.out).mono ?_); rintro e w3 ⟨v, rfl, hR, hB3, hK3⟩; obtain ⟨A3, c3, rfl⟩ := Kd.R_slice hR; have HR := Aside0.mk hR; have HB3 := Aside0.mk hB3; clear hR hB3 hK3) | (go_at_call 48; (with_reducible refine (Tryd.bytes_Equal_all _ _ _ _ _ _ x l _ rfl rfl (bytesIn (Kd.R_reads' HR.out).2.2) (bytesIn (Kd.C_below HC.out HB3.out))).mono ?_); rintro e w4 ⟨rfl, rfl⟩; rw [HQ.out]))
      go_ret2
      exact ⟨rfl, HB3.out⟩
  · rw [if_neg hl] at h
    cases h
end Go.Proofs.YthflimnpiglgbaaDoor.LibWrap2
namespace Go.Proofs.YthflimnpiglgbaaDoor.LibStr
open Go.Lib hiding bytesOf bytesOf_length
open Go Go.RowKit Go.Proofs.YthflimnpiglgbaaDoorW.PrintWords Go.Proofs.YthflimnpiglgbaaDoorW.PrintLast Go.Proofs.YthflimnpiglgbaaDoorW.PrintMore
variable {P : Program}
theorem own_string_at (w : World) (base : Nat) (t u ty e : TypeId) (i : TypeInfo) (ht : P.underlying t = some (.slice e)) (hu : P.underlying u = some .string) (hi : P.info? e = some i) (hz : i.zero = some (.int .u8 0))
    (hsize : i.size = 1) (hby : i.bytes = 1) (v : Value) (n : Nat) (xs : List Value) (hown : w.ownsRow base e 1 v n xs) (s : ByteArray)
    (h63 : n + s.size ≤ maxLen) (hbytes : n + s.size ≤ 140737488355328) (hbase : base ≤ w.heap.size) :
    ∃ v' w', (Builtin.append_ #[t, u] ty #[v, .string s]).run P w = .ok v' w' ∧ w'.ownsRow base e 1 v' (n + s.size) (xs ++ strCells s) ∧ w.grownBy w' v.ownBlock ∧
      (v'.ownBlock = v.ownBlock ∨ ∃ b, v'.ownBlock = some b ∧ w.heap.size ≤ b) := by
  obtain ⟨v', w', hr, h1, h2, h3⟩ := run_append_own_string (P := P) w base t u ty e i ht hu hi hz hsize hby v n xs hown s h63 hbytes hbase
  refine ⟨v', w', hr, h1, h2, ?_⟩
  have hxl : xs.length = n := by simpa using hown.1
  rcases hown.2 with ⟨rfl, rfl⟩ | ⟨g, cap, cur, rfl, hbg, hg, hnc, hcm, hcs, htake⟩
  · by_cases hm : s.size = 0
    · left
      rw [h3.2 ⟨rfl, hm⟩]
    · right
      have hr2 := run_append_nil_string (P := P) w t u ty e i (.int .u8 0) ht hu hi hz s (by omega) (by simp only [maxLen] at h63; omega) (by rw [hby]; omega)
      rw [hr2] at hr
      obtain ⟨rfl, rfl⟩ := Result.ok.inj hr
      exact ⟨_, rfl, Nat.le_refl _⟩
  · by_cases hroom : n + s.size ≤ cap
    · left
      have hfit : n + s.size ≤ cur.size := by
        have : cur.size = cap := by simpa using hcs
        omega
      have hr2 := run_append_room_string (P := P) w t u ty e i ht hu hi hsize g n cap cur hg s hroom hfit
      rw [hr2] at hr
      obtain ⟨rfl, rfl⟩ := Result.ok.inj hr
      rfl
    · right
      have holds : ∀ j u, xs[j]? = some u → w.cell? ((⟨g, 0, none⟩ : Addr).add j) = some u := hown.cells (g := g) rfl
      have hr2 := run_append_grow_string (P := P) w t u ty e i (.int .u8 0) ht hu hi hz ⟨g, 0, none⟩ n cap xs (by rw [hsize]; simpa using hxl) holds s (by omega) (by simp only [maxLen] at h63; omega) (by rw [hby]; exact growslice_fits (by omega) (by omega))
      rw [hr2] at hr
      obtain ⟨rfl, rfl⟩ := Result.ok.inj hr
      exact ⟨_, rfl, Nat.le_refl _⟩
theorem R_append_str {ops : Array Oper} {rest : List Oper} {o : Oper} {a : Act} {Q : Exit → Act → World → Prop} {w0 W : World} (base : Nat) (hgd : o.guard = none) (s x : Operand) (t u e : TypeId)
    (ho : o.op = .call { callee := .builtin .append, args := #[s, x], argTypes := #[t, u] })
    (ht : P.underlying t = some (.slice e)) (hu : P.underlying u = some .string) (hinfo : (P.info? e).map (fun i => (i.zero, i.size, i.bytes)) = some (some (.int .u8 0), 1, 1))
    (v : Value) (xs : List Int) (y : ByteArray) (ok : Nat → Prop) (hs : a.eval s = v) (hx : a.eval x = .string y) (hfresh : ∀ k, W.heap.size ≤ k → ok k)
    (HO : Kd.R (Kd.int .u8) e W base ok v xs) (HB : Below base w0 W) (hbase : base ≤ W.heap.size) (hl : xs.length + y.size ≤ 140737488355328)
    (h : ∀ v1 w1, Kd.R (Kd.int .u8) e w1 base ok v1 (xs ++ bytesOf y) → Below base w0 w1 → W.grownBy w1 v.ownBlock → (v1.ownBlock = v.ownBlock ∨ ∃ b, v1.ownBlock = some b ∧ W.heap.size ≤ b) → wpList P ops Q rest (a.put o.dst v1) w1) :
    wpList P ops Q (o :: rest) a W := by
  obtain ⟨i0, hi, hzz⟩ := Option.map_eq_some_iff.1 hinfo
  simp only [Prod.mk.injEq] at hzz
  obtain ⟨hz0, hz1, hz2⟩ := hzz
  have hown := Kd.own_of_R HO
  refine wpList_plain hgd fun K hK => ?_
  obtain ⟨v', w', hr, h2, h3, h4⟩ := own_string_at (P := P) W base t u o.type e i0 ht hu hi hz0 hz1 hz2 v xs.length _ hown y (by simp only [maxLen]; omega) hl hbase
  unfold Oper.wp execOp
  simp only [ho, resolve, invoke, builtin, Sem.run_bind, Sem.run_pure, Result.andThen_ok, List.map_toArray, List.map_cons, List.map_nil, hs, hx, hr]
  refine hK _ _ (h v' w' ?_ (HB.grown h3 hbase (own_base hown)) h3 h4)
  have hl2 : (xs ++ bytesOf y).length = xs.length + y.size := by rw [List.length_append, bytesOf_length]
  have hc : encs (Value.int .u8) (xs ++ bytesOf y) = encs (Value.int .u8) xs ++ Lib.strCells y := by
    simp [encs, bytesOf, Go.Lib.strCells]
  refine Kd.R_of_own (enc := Value.int .u8) (by rw [hl2, hc]; exact h2) (fun k hk => ?_)
  rcases h4 with h4 | ⟨b, hb, hle⟩
  · exact HO.1 k (by rw [← h4]; exact hk)
  · rw [hb] at hk
    cases hk
    exact hfresh _ hle
end Go.Proofs.YthflimnpiglgbaaDoor.LibStr
