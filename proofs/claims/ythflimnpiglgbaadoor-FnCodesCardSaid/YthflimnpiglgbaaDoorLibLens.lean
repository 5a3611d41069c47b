/- The lengths of Huffman's codes as the program's text tells them, and the codes that follow of them, in plain lists. Condition: each theorem's own bounds. -/
import Derived.KernelRfl
import Derived.Lib.Split
import Derived.Lib.Atoi
import Derived.Test.YthflimnpiglgbaaDoorWWords
set_option linter.unusedVariables false
set_option linter.unusedSimpArgs false
namespace Go.Proofs.YthflimnpiglgbaaDoor.LibLens
open Go Go.RowKit Go.Proofs.YthflimnpiglgbaaDoorW.PrintWords
theorem ix {k : Nat} (h : 0 < k) : ∃ m, k = m + 1 := ⟨k - 1, by omega⟩
/-! Cutting at one byte -/
theorem ix_hit (c : UInt8) (p r : List UInt8) (h : c ∉ p) : Lib.index (p ++ c :: r) [c] = p.length := by
  rw [Lib.index_one]
  induction p with
  | nil => simp [Lib.indexByte]
  | cons b p ih =>
    have hb : (b == c) = false := by
      rw [beq_eq_false_iff_ne]
      intro e; exact h (by rw [e]; exact List.mem_cons_self ..)
    have hi := ih (fun e => h (List.mem_cons_of_mem _ e))
    rw [List.cons_append, Lib.indexByte, hb, hi]
    have : (((p.length : Int)) == -1) = false := by rw [beq_eq_false_iff_ne]; omega
    rw [this]
    simp
theorem ix_miss (c : UInt8) (p : List UInt8) (h : c ∉ p) : Lib.index p [c] = -1 := by
  rw [Lib.index_one]
  induction p with
  | nil => rfl
  | cons b p ih =>
    have hb : (b == c) = false := by
      rw [beq_eq_false_iff_ne]
      intro e; exact h (by rw [e]; exact List.mem_cons_self ..)
    rw [Lib.indexByte, hb, ih (fun e => h (List.mem_cons_of_mem _ e))]
    simp
def bar : List (List UInt8) → List UInt8
  | [] => []
  | [p] => p
  | p :: q :: ps => p ++ 32 :: bar (q :: ps)
theorem split_bar (ps : List (List UInt8)) : ∀ p, (∀ q ∈ p :: ps, (32 : UInt8) ∉ q) → Lib.splitK [32] 0 ps.length (bar (p :: ps)) = p :: ps := by
  induction ps with
  | nil => intro p _; rfl
  | cons q ps ih =>
    intro p h
    have hp := h p (List.mem_cons_self ..)
    have e : bar (p :: q :: ps) = p ++ 32 :: bar (q :: ps) := rfl
    have hi := ix_hit 32 p (bar (q :: ps)) hp
    rw [List.length_cons, Lib.splitK, e, hi]
    have hm : (((p.length : Int)) == -1) = false := by rw [beq_eq_false_iff_ne]; omega
    rw [hm, if_neg (by decide), Int.toNat_natCast]
    have e1 : (p ++ 32 :: bar (q :: ps)).take (p.length + 0) = p := by simp
    have e2 : (p ++ 32 :: bar (q :: ps)).drop (p.length + [(32 : UInt8)].length) = bar (q :: ps) := by
      rw [List.drop_append]; simp
    rw [e1, e2, ih q (fun x hx => h x (List.mem_cons_of_mem _ hx))]
theorem count_bar (ps : List (List UInt8)) : ∀ p fuel, (∀ q ∈ p :: ps, (32 : UInt8) ∉ q) → ps.length < fuel → Lib.countFrom [32] fuel (bar (p :: ps)) = ps.length := by
  induction ps with
  | nil =>
    intro p fuel h hf
    obtain ⟨f, rfl⟩ := ix (show 0 < fuel by omega)
    rw [Lib.countFrom, show bar [p] = p from rfl, ix_miss 32 p (h p (List.mem_cons_self ..))]
    rfl
  | cons q ps ih =>
    intro p fuel h hf
    obtain ⟨f, rfl⟩ := ix (show 0 < fuel by omega)
    have hp := h p (List.mem_cons_self ..)
    have e : bar (p :: q :: ps) = p ++ 32 :: bar (q :: ps) := rfl
    have hi := ix_hit 32 p (bar (q :: ps)) hp
    rw [Lib.countFrom, e, hi]
    have hm : (((p.length : Int)) == -1) = false := by rw [beq_eq_false_iff_ne]; omega
    rw [hm, if_neg (by decide), Int.toNat_natCast]
    have e2 : (p ++ 32 :: bar (q :: ps)).drop (p.length + [(32 : UInt8)].length) = bar (q :: ps) := by
      rw [List.drop_append]; simp
    rw [e2, ih q f (fun x hx => h x (List.mem_cons_of_mem _ hx)) (by simp at hf; omega), List.length_cons]
    omega
theorem bar_length (ps : List (List UInt8)) : ∀ p, ps.length ≤ (bar (p :: ps)).length := by
  induction ps with
  | nil => intro p; simp
  | cons q ps ih =>
    intro p
    have e : bar (p :: q :: ps) = p ++ 32 :: bar (q :: ps) := rfl
    have := ih q
    rw [e, List.length_append, List.length_cons, List.length_cons]
    omega
theorem bytes_ext {a b : ByteArray} (h : a.data.toList = b.data.toList) : a = b := by
  cases a; cases b; simp at h; rw [h]
/-! The lengths -/
set_option maxRecDepth 100000 in
def lens : List Nat :=
  13 :: 23 :: 28 :: 28 :: 28 :: 28 :: 28 :: 28 :: 28 :: 24 :: 30 :: 28 :: 28 :: 30 :: 28 :: 28 :: 28 :: 28 :: 28 :: 28 :: 28 :: 28 :: 30 :: 28 :: 28 :: 
  28 :: 28 :: 28 :: 28 :: 28 :: 28 :: 28 :: 6 :: 10 :: 10 :: 12 :: 13 :: 6 :: 8 :: 11 :: 10 :: 10 :: 8 :: 11 :: 8 :: 6 :: 6 :: 6 :: 5 :: 5 :: 5 :: 6 :: 
  6 :: 6 :: 6 :: 6 :: 6 :: 6 :: 7 :: 8 :: 15 :: 6 :: 12 :: 10 :: 13 :: 6 :: 7 :: 7 :: 7 :: 7 :: 7 :: 7 :: 7 :: 7 :: 7 :: 7 :: 7 :: 7 :: 7 :: 7 :: 7 :: 7 :: 
  7 :: 7 :: 7 :: 7 :: 7 :: 7 :: 8 :: 7 :: 8 :: 13 :: 19 :: 13 :: 14 :: 6 :: 15 :: 5 :: 6 :: 5 :: 6 :: 5 :: 6 :: 6 :: 6 :: 5 :: 7 :: 7 :: 6 :: 6 :: 6 :: 
  5 :: 6 :: 7 :: 6 :: 5 :: 5 :: 6 :: 7 :: 7 :: 7 :: 7 :: 7 :: 15 :: 11 :: 14 :: 13 :: 28 :: 20 :: 22 :: 20 :: 20 :: 22 :: 22 :: 22 :: 23 :: 22 :: 23 :: 
  23 :: 23 :: 23 :: 23 :: 24 :: 23 :: 24 :: 24 :: 22 :: 23 :: 24 :: 23 :: 23 :: 23 :: 23 :: 21 :: 22 :: 23 :: 22 :: 23 :: 23 :: 24 :: 22 :: 21 :: 20 :: 
  22 :: 22 :: 23 :: 23 :: 21 :: 23 :: 22 :: 22 :: 24 :: 21 :: 22 :: 23 :: 23 :: 21 :: 21 :: 22 :: 21 :: 23 :: 22 :: 23 :: 23 :: 20 :: 22 :: 22 :: 22 :: 
  23 :: 22 :: 22 :: 23 :: 26 :: 26 :: 20 :: 19 :: 22 :: 23 :: 22 :: 25 :: 26 :: 26 :: 26 :: 27 :: 27 :: 26 :: 24 :: 25 :: 19 :: 21 :: 26 :: 27 :: 27 :: 
  26 :: 27 :: 24 :: 21 :: 21 :: 26 :: 26 :: 28 :: 27 :: 27 :: 27 :: 20 :: 24 :: 20 :: 21 :: 22 :: 21 :: 21 :: 23 :: 22 :: 22 :: 25 :: 25 :: 24 :: 24 :: 
  26 :: 23 :: 26 :: 27 :: 26 :: 26 :: 27 :: 27 :: 27 :: 27 :: 27 :: 28 :: 27 :: 27 :: 27 :: 27 :: 27 :: 26 :: 30 :: []
def txt (n : Nat) : List UInt8 := if n < 10 then UInt8.ofNat (48 + n) :: [] else UInt8.ofNat (48 + n / 10) :: UInt8.ofNat (48 + n % 10) :: []
def parts : List (List UInt8) := lens.map txt
def strs : List ByteArray := parts.map fun q => ⟨q.toArray⟩
set_option maxRecDepth 100000 in
theorem parts_bar : ∀ q ∈ parts, (32 : UInt8) ∉ q := by decide +kernel
set_option maxRecDepth 100000 in
theorem lens_len : lens.length = 257 := by decide +kernel
set_option maxRecDepth 100000 in
theorem parts_len : parts.length = 257 := by decide +kernel
theorem strs_len : strs.length = 257 := by unfold strs; rw [List.length_map, parts_len]
set_option maxRecDepth 100000 in
theorem atoi_all : ∀ n ∈ lens, Lib.atoi (txt n) = some (n : Int) ∧ (txt n).length ≤ 18 := by decide +kernel
theorem str_at (k : Nat) (h : k < 257) : Lib.atoi (strs.getD k ByteArray.empty).data.toList = some ((lens.getD k 0 : Nat) : Int) ∧ (strs.getD k ByteArray.empty).size ≤ 18 := by
  have hl := lens_len
  have hk : k < lens.length := by omega
  have e : strs.getD k ByteArray.empty = ⟨(txt lens[k]).toArray⟩ := by
    simp [strs, parts, List.getD_eq_getElem?_getD, List.getElem?_eq_getElem hk]
  have e2 : lens.getD k 0 = lens[k] := by simp [List.getD_eq_getElem?_getD, List.getElem?_eq_getElem hk]
  obtain ⟨h1, h2⟩ := atoi_all _ (List.getElem_mem hk)
  rw [e, e2]
  refine ⟨h1, ?_⟩
  show (txt lens[k]).toArray.size ≤ 18
  rw [List.size_toArray]
  exact h2
theorem split_text (s : ByteArray) (hs : s.data.toList = bar parts) : Lib.countB s (⟨#[32]⟩ : ByteArray) = 256 ∧ Lib.splitB (⟨#[32]⟩ : ByteArray) 0 256 s = strs := by
  obtain ⟨p, ps, hp⟩ : ∃ p ps, parts = p :: ps := ⟨_, _, rfl⟩
  have hall : ∀ q ∈ p :: ps, (32 : UInt8) ∉ q := by rw [← hp]; exact parts_bar
  have htl : ps.length = 256 := by
    have := parts_len
    rw [hp, List.length_cons] at this
    omega
  have e2 : (ByteArray.mk #[32]).data.toList = [32] := rfl
  have hc : Lib.countB s (⟨#[32]⟩ : ByteArray) = 256 := by
    show Lib.count s.data.toList [32] = 256
    rw [hs, hp]
    unfold Lib.count
    have := bar_length ps p
    rw [count_bar _ _ _ hall (by omega), htl]
  have hd := Lib.splitB_data (⟨#[32]⟩ : ByteArray) 0 256 s
  rw [e2, hs, hp] at hd
  have hk := split_bar ps p hall
  rw [htl] at hk
  rw [hk, ← hp] at hd
  refine ⟨hc, ?_⟩
  unfold strs
  rw [← hd, List.map_map]
  conv => lhs; rw [← List.map_id (Lib.splitB (⟨#[32]⟩ : ByteArray) 0 256 s)]
  apply List.map_congr_left
  intro x _
  apply bytes_ext
  simp
/-! The codes -/
/-- One round over all bytes: those of one length get the next codes. -/
def pass (size : Int) : List (Int × Int) → Int → List (Int × Int) × Int
  | [], nx => ([], nx)
  | (b, s) :: l, nx => if s = size then ((nx, s) :: (pass size l (wrap64 (nx + 1))).1, (pass size l (wrap64 (nx + 1))).2) else ((b, s) :: (pass size l nx).1, (pass size l nx).2)
/-- The codes of at most n bits, and the next one. -/
def upto : Nat → List (Int × Int) × Int
  | 0 => (lens.map (fun (n : Nat) => ((0 : Int), (n : Int))), 0)
  | n + 1 => pass ((n : Int) + 1) (upto n).1 (wrap64 ((upto n).2 * 2))
theorem pass_len (size : Int) (l : List (Int × Int)) : ∀ nx, (pass size l nx).1.length = l.length := by
  induction l with
  | nil => intro nx; rfl
  | cons p l ih =>
    intro nx
    obtain ⟨b, s⟩ := p
    unfold pass
    split
    · simp [ih]
    · simp [ih]
theorem pass_append (size : Int) (a b : List (Int × Int)) : ∀ nx, pass size (a ++ b) nx = ((pass size a nx).1 ++ (pass size b (pass size a nx).2).1, (pass size b (pass size a nx).2).2) := by
  induction a with
  | nil => intro nx; rfl
  | cons p a ih =>
    intro nx
    obtain ⟨x, s⟩ := p
    rw [List.cons_append]
    by_cases h : s = size
    · simp only [pass, if_pos h, ih, List.cons_append]
    · simp only [pass, if_neg h, ih, List.cons_append]
theorem upto_len (n : Nat) : (upto n).1.length = 257 := by
  induction n with
  | zero => unfold upto; rw [List.length_map, lens_len]
  | succ n ih => unfold upto; rw [pass_len, ih]
/-- The state inside a round: k bytes are done. -/
def midA (size : Int) (l : List (Int × Int)) (nx : Int) (k : Nat) : List (Int × Int) := (pass size (l.take k) nx).1 ++ l.drop k
def midN (size : Int) (l : List (Int × Int)) (nx : Int) (k : Nat) : Int := (pass size (l.take k) nx).2
theorem mid_zero (size : Int) (l : List (Int × Int)) (nx : Int) : midA size l nx 0 = l ∧ midN size l nx 0 = nx := ⟨rfl, rfl⟩
theorem mid_all (size : Int) (l : List (Int × Int)) (nx : Int) (k : Nat) (h : l.length ≤ k) : midA size l nx k = (pass size l nx).1 ∧ midN size l nx k = (pass size l nx).2 := by
  unfold midA midN
  rw [List.take_of_length_le h, List.drop_of_length_le h, List.append_nil]
  exact ⟨rfl, rfl⟩
theorem midA_len (size : Int) (l : List (Int × Int)) (nx : Int) (k : Nat) : (midA size l nx k).length = l.length := by
  unfold midA
  rw [List.length_append, pass_len, List.length_take, List.length_drop]
  omega
theorem midA_at (size : Int) (l : List (Int × Int)) (nx : Int) (k : Nat) (h : k < l.length) : (midA size l nx k).getD k (0, 0) = l.getD k (0, 0) := by
  unfold midA
  have h1 : (pass size (l.take k) nx).1.length = k := by rw [pass_len, List.length_take]; omega
  rw [List.getD_eq_getElem?_getD, List.getD_eq_getElem?_getD, List.getElem?_append_right (by omega), h1, Nat.sub_self, List.getElem?_drop]
  simp
theorem mid_succ (size : Int) (l : List (Int × Int)) (nx : Int) (k : Nat) (h : k < l.length) :
    ((l.getD k (0, 0)).2 = size → midA size l nx (k + 1) = (midA size l nx k).set k (midN size l nx k, (l.getD k (0, 0)).2) ∧ midN size l nx (k + 1) = wrap64 (midN size l nx k + 1)) ∧
    ((l.getD k (0, 0)).2 ≠ size → midA size l nx (k + 1) = midA size l nx k ∧ midN size l nx (k + 1) = midN size l nx k) := by
  have h1 : (pass size (l.take k) nx).1.length = k := by rw [pass_len, List.length_take]; omega
  have e : l.getD k (0, 0) = l[k] := by simp [List.getD_eq_getElem?_getD, List.getElem?_eq_getElem h]
  have et : l.take (k + 1) = l.take k ++ [l[k]] := by rw [List.take_succ_eq_append_getElem h]
  have ed : l.drop k = l[k] :: l.drop (k + 1) := List.drop_eq_getElem_cons h
  rw [e]
  unfold midA midN
  rw [et, pass_append, ed]
  generalize l[k] = p
  obtain ⟨b, s⟩ := p
  refine ⟨fun hs => ?_, fun hs => ?_⟩
  · have hs' : s = size := hs
    simp only [pass, if_pos hs']
    refine ⟨?_, trivial⟩
    rw [List.set_append_right _ _ (by omega), h1, Nat.sub_self]
    simp
  · have hs' : ¬ s = size := hs
    simp only [pass, if_neg hs']
    refine ⟨?_, trivial⟩
    simp
set_option maxRecDepth 100000 in
def codes : List (Int × Int) :=
  (8184, 13) :: (8388568, 23) :: (268435426, 28) :: (268435427, 28) :: (268435428, 28) :: (268435429, 28) :: (268435430, 28) :: (268435431, 28) :: 
  (268435432, 28) :: (16777194, 24) :: (1073741820, 30) :: (268435433, 28) :: (268435434, 28) :: (1073741821, 30) :: (268435435, 28) :: (268435436, 28) :: 
  (268435437, 28) :: (268435438, 28) :: (268435439, 28) :: (268435440, 28) :: (268435441, 28) :: (268435442, 28) :: (1073741822, 30) :: (268435443, 28) :: 
  (268435444, 28) :: (268435445, 28) :: (268435446, 28) :: (268435447, 28) :: (268435448, 28) :: (268435449, 28) :: (268435450, 28) :: (268435451, 28) :: 
  (20, 6) :: (1016, 10) :: (1017, 10) :: (4090, 12) :: (8185, 13) :: (21, 6) :: (248, 8) :: (2042, 11) :: (1018, 10) :: (1019, 10) :: (249, 8) :: 
  (2043, 11) :: (250, 8) :: (22, 6) :: (23, 6) :: (24, 6) :: (0, 5) :: (1, 5) :: (2, 5) :: (25, 6) :: (26, 6) :: (27, 6) :: (28, 6) :: (29, 6) :: 
  (30, 6) :: (31, 6) :: (92, 7) :: (251, 8) :: (32764, 15) :: (32, 6) :: (4091, 12) :: (1020, 10) :: (8186, 13) :: (33, 6) :: (93, 7) :: (94, 7) :: 
  (95, 7) :: (96, 7) :: (97, 7) :: (98, 7) :: (99, 7) :: (100, 7) :: (101, 7) :: (102, 7) :: (103, 7) :: (104, 7) :: (105, 7) :: (106, 7) :: (107, 7) :: 
  (108, 7) :: (109, 7) :: (110, 7) :: (111, 7) :: (112, 7) :: (113, 7) :: (114, 7) :: (252, 8) :: (115, 7) :: (253, 8) :: (8187, 13) :: (524272, 19) :: 
  (8188, 13) :: (16380, 14) :: (34, 6) :: (32765, 15) :: (3, 5) :: (35, 6) :: (4, 5) :: (36, 6) :: (5, 5) :: (37, 6) :: (38, 6) :: (39, 6) :: (6, 5) :: 
  (116, 7) :: (117, 7) :: (40, 6) :: (41, 6) :: (42, 6) :: (7, 5) :: (43, 6) :: (118, 7) :: (44, 6) :: (8, 5) :: (9, 5) :: (45, 6) :: (119, 7) :: 
  (120, 7) :: (121, 7) :: (122, 7) :: (123, 7) :: (32766, 15) :: (2044, 11) :: (16381, 14) :: (8189, 13) :: (268435452, 28) :: (1048550, 20) :: 
  (4194258, 22) :: (1048551, 20) :: (1048552, 20) :: (4194259, 22) :: (4194260, 22) :: (4194261, 22) :: (8388569, 23) :: (4194262, 22) :: (8388570, 23) :: 
  (8388571, 23) :: (8388572, 23) :: (8388573, 23) :: (8388574, 23) :: (16777195, 24) :: (8388575, 23) :: (16777196, 24) :: (16777197, 24) :: 
  (4194263, 22) :: (8388576, 23) :: (16777198, 24) :: (8388577, 23) :: (8388578, 23) :: (8388579, 23) :: (8388580, 23) :: (2097116, 21) :: (4194264, 22) :: 
  (8388581, 23) :: (4194265, 22) :: (8388582, 23) :: (8388583, 23) :: (16777199, 24) :: (4194266, 22) :: (2097117, 21) :: (1048553, 20) :: (4194267, 22) :: 
  (4194268, 22) :: (8388584, 23) :: (8388585, 23) :: (2097118, 21) :: (8388586, 23) :: (4194269, 22) :: (4194270, 22) :: (16777200, 24) :: (2097119, 21) :: 
  (4194271, 22) :: (8388587, 23) :: (8388588, 23) :: (2097120, 21) :: (2097121, 21) :: (4194272, 22) :: (2097122, 21) :: (8388589, 23) :: (4194273, 22) :: 
  (8388590, 23) :: (8388591, 23) :: (1048554, 20) :: (4194274, 22) :: (4194275, 22) :: (4194276, 22) :: (8388592, 23) :: (4194277, 22) :: (4194278, 22) :: 
  (8388593, 23) :: (67108832, 26) :: (67108833, 26) :: (1048555, 20) :: (524273, 19) :: (4194279, 22) :: (8388594, 23) :: (4194280, 22) :: 
  (33554412, 25) :: (67108834, 26) :: (67108835, 26) :: (67108836, 26) :: (134217694, 27) :: (134217695, 27) :: (67108837, 26) :: (16777201, 24) :: 
  (33554413, 25) :: (524274, 19) :: (2097123, 21) :: (67108838, 26) :: (134217696, 27) :: (134217697, 27) :: (67108839, 26) :: (134217698, 27) :: 
  (16777202, 24) :: (2097124, 21) :: (2097125, 21) :: (67108840, 26) :: (67108841, 26) :: (268435453, 28) :: (134217699, 27) :: (134217700, 27) :: 
  (134217701, 27) :: (1048556, 20) :: (16777203, 24) :: (1048557, 20) :: (2097126, 21) :: (4194281, 22) :: (2097127, 21) :: (2097128, 21) :: 
  (8388595, 23) :: (4194282, 22) :: (4194283, 22) :: (33554414, 25) :: (33554415, 25) :: (16777204, 24) :: (16777205, 24) :: (67108842, 26) :: 
  (8388596, 23) :: (67108843, 26) :: (134217702, 27) :: (67108844, 26) :: (67108845, 26) :: (134217703, 27) :: (134217704, 27) :: (134217705, 27) :: 
  (134217706, 27) :: (134217707, 27) :: (268435454, 28) :: (134217708, 27) :: (134217709, 27) :: (134217710, 27) :: (134217711, 27) :: (134217712, 27) :: 
  (67108846, 26) :: (1073741823, 30) :: []
set_option maxRecDepth 100000 in
theorem codes_upto : (upto 30).1 = codes := by decide +kernel
set_option maxRecDepth 100000 in
theorem codes_len : codes.length = 257 := by decide +kernel
set_option maxRecDepth 100000 in
theorem codes_lens : codes.map (fun p => p.2) = lens.map (fun (n : Nat) => (n : Int)) := by decide +kernel
/-- What the texts' loop has read: k lengths. -/
def readA (k : Nat) : List (Int × Int) := (lens.take k).map (fun (n : Nat) => ((0 : Int), (n : Int))) ++ List.replicate (257 - k) (0, 0)
theorem readA_len (k : Nat) (h : k ≤ 257) : (readA k).length = 257 := by
  have := lens_len
  unfold readA
  rw [List.length_append, List.length_map, List.length_take, List.length_replicate]
  omega
theorem readA_succ (k : Nat) (h : k < 257) : readA (k + 1) = (readA k).set k (0, ((lens.getD k 0 : Nat) : Int)) := by
  have hl := lens_len
  have hk : k < lens.length := by omega
  have e2 : lens.getD k 0 = lens[k] := by simp [List.getD_eq_getElem?_getD, List.getElem?_eq_getElem hk]
  have h1 : ((lens.take k).map (fun (n : Nat) => ((0 : Int), (n : Int)))).length = k := by rw [List.length_map, List.length_take]; omega
  unfold readA
  rw [e2, List.take_succ_eq_append_getElem hk, List.map_append, List.set_append_right _ _ (by omega), h1, Nat.sub_self]
  have e3 : 257 - k = (257 - (k + 1)) + 1 := by omega
  rw [e3, List.replicate_succ, List.set_cons_zero, List.append_assoc]
  rfl
theorem readA_zero : readA 0 = List.replicate 257 (0, 0) := rfl
theorem readA_at (k : Nat) (h : k < 257) : (readA k).getD k (0, 0) = (0, 0) := by
  have hl := lens_len
  have h1 : ((lens.take k).map (fun (n : Nat) => ((0 : Int), (n : Int)))).length = k := by rw [List.length_map, List.length_take]; omega
  unfold readA
  rw [List.getD_eq_getElem?_getD, List.getElem?_append_right (by omega), h1, Nat.sub_self]
  rw [List.getElem?_replicate, if_pos (by omega)]
  rfl
theorem readA_all : readA 257 = (upto 0).1 := by
  have hl := lens_len
  unfold readA upto
  rw [List.take_of_length_le (by omega)]
  simp
/-! A block that holds such a list -/
def cellsOf : List (Int × Int) → List Value
  | [] => []
  | p :: l => .int .i64 p.1 :: .int .i64 p.2 :: cellsOf l
theorem cellsOf_len (l : List (Int × Int)) : (cellsOf l).length = 2 * l.length := by
  induction l with
  | nil => rfl
  | cons p l ih => simp only [cellsOf, List.length_cons, ih]; omega
theorem cellsOf_bits (l : List (Int × Int)) : ∀ i, i < l.length → (cellsOf l)[2 * i]? = some (.int .i64 (l.getD i (0, 0)).1) := by
  induction l with
  | nil => intro i h; simp at h
  | cons p l ih =>
    intro i h
    cases i with
    | zero => simp [cellsOf]
    | succ i =>
      have e : 2 * (i + 1) = 2 * i + 1 + 1 := by omega
      rw [e, cellsOf, List.getElem?_cons_succ, List.getElem?_cons_succ, ih i (by simp at h; omega)]
      simp
theorem cellsOf_size (l : List (Int × Int)) : ∀ i, i < l.length → (cellsOf l)[2 * i + 1]? = some (.int .i64 (l.getD i (0, 0)).2) := by
  induction l with
  | nil => intro i h; simp at h
  | cons p l ih =>
    intro i h
    cases i with
    | zero => simp [cellsOf]
    | succ i =>
      have e : 2 * (i + 1) + 1 = (2 * i + 1) + 1 + 1 := by omega
      rw [e, cellsOf, List.getElem?_cons_succ, List.getElem?_cons_succ, ih i (by simp at h; omega)]
      simp
theorem cellsOf_set_bits (l : List (Int × Int)) (x : Int) : ∀ i, i < l.length → (cellsOf l).set (2 * i) (.int .i64 x) = cellsOf (l.set i (x, (l.getD i (0, 0)).2)) := by
  induction l with
  | nil => intro i h; simp at h
  | cons p l ih =>
    intro i h
    cases i with
    | zero => simp [cellsOf]
    | succ i =>
      have e : 2 * (i + 1) = 2 * i + 1 + 1 := by omega
      rw [e, cellsOf, List.set_cons_succ, List.set_cons_succ, ih i (by simp at h; omega), List.set_cons_succ, cellsOf]
      simp
theorem cellsOf_set_size (l : List (Int × Int)) (x : Int) : ∀ i, i < l.length → (cellsOf l).set (2 * i + 1) (.int .i64 x) = cellsOf (l.set i ((l.getD i (0, 0)).1, x)) := by
  induction l with
  | nil => intro i h; simp at h
  | cons p l ih =>
    intro i h
    cases i with
    | zero => simp [cellsOf]
    | succ i =>
      have e : 2 * (i + 1) + 1 = (2 * i + 1) + 1 + 1 := by omega
      rw [e, cellsOf, List.set_cons_succ, List.set_cons_succ, ih i (by simp at h; omega), List.set_cons_succ, cellsOf]
      simp
/-- Block g holds the list l as an array of the type t. -/
def Arr (t : Nat) (w : World) (g : Nat) (l : List (Int × Int)) : Prop := w.heap[g]? = some (.cells (cellsOf l).toArray t (0, 0))
section
variable {t : Nat} {w w1 : World} {g : Nat} {l : List (Int × Int)}
theorem Arr.bits (h : Arr t w g l) (i : Nat) (hi : i < l.length) : w.cell? ⟨g, i * 2, none⟩ = some (.int .i64 (l.getD i (0, 0)).1) := by
  rw [blk_cell h, Nat.mul_comm]
  simpa using cellsOf_bits l i hi
theorem Arr.size (h : Arr t w g l) (i : Nat) (hi : i < l.length) : w.cell? ⟨g, i * 2 + 1, none⟩ = some (.int .i64 (l.getD i (0, 0)).2) := by
  rw [blk_cell h, Nat.mul_comm]
  simpa using cellsOf_size l i hi
theorem Arr.free (h : Arr t w g l) (j : Nat) : w.frozen? ⟨g, j, none⟩ = false := blk_frozen h j
theorem Arr.set_bits (h : Arr t w g l) (i : Nat) (hi : i < l.length) (x : Int) : Arr t (w.setCell ⟨g, i * 2, none⟩ (.int .i64 x)) g (l.set i (x, (l.getD i (0, 0)).2)) := by
  have := blk_set h (2 * i) (.int .i64 x)
  unfold Arr
  rw [Nat.mul_comm, this, ← cellsOf_set_bits l x i hi]
  simp
theorem Arr.set_size (h : Arr t w g l) (i : Nat) (hi : i < l.length) (x : Int) : Arr t (w.setCell ⟨g, i * 2 + 1, none⟩ (.int .i64 x)) g (l.set i ((l.getD i (0, 0)).1, x)) := by
  have := blk_set h (2 * i + 1) (.int .i64 x)
  unfold Arr
  rw [Nat.mul_comm, this, ← cellsOf_set_size l x i hi]
  simp
theorem Arr.drewN (h : Arr t w g l) (n : Nat) : Arr t (w.drewN n) g l := h
theorem Arr.drew (h : Arr t w g l) : Arr t w.drew g l := h
theorem Arr.alloc (h : Arr t w g l) (o : Obj) : Arr t (w.alloc o) g l := ((Below.refl w.heap.size w).alloc (Nat.le_refl _) o |>.block g (blk_lt h)).trans h
theorem Arr.set_far (h : Arr t w g l) {p : Addr} (hp : g ≠ p.block) (u : Value) : Arr t (w.setCell p u) g l := blk_far h hp u
theorem Arr.grown (h : Arr t w g l) {row : Option Nat} (hg : w.grownBy w1 row) (hne : some g ≠ row) : Arr t w1 g l := blk_grown h hg hne
theorem Arr.lt (h : Arr t w g l) : g < w.heap.size := blk_lt h
theorem Arr.below (h : Arr t w g l) (hb : Below w.heap.size w w1) : Arr t w1 g l := (hb.block g h.lt).trans h
end
end Go.Proofs.YthflimnpiglgbaaDoor.LibLens
