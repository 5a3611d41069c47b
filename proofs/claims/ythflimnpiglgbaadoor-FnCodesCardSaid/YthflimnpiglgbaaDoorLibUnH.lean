/- unHuff: what the call answers, over a block that holds the codes. Condition: each theorem's own. -/
import Derived.Test.YthflimnpiglgbaaDoorLibMap
import Derived.RegionTactic
import Derived.BigRegion
set_option linter.unusedVariables false
set_option linter.unusedSimpArgs false
namespace Go.Proofs.YthflimnpiglgbaaDoor.LibUnH
open Go Go.RowKit Go.Maps Go.Proofs.YthflimnpiglgbaaDoorW.PrintWords Go.Proofs.YthflimnpiglgbaaDoorW.PrintLast Go.Proofs.YthflimnpiglgbaaDoorW.PrintMore Go.Proofs.YthflimnpiglgbaaDoor.LibLens Go.Proofs.YthflimnpiglgbaaDoor.LibHuff Go.Proofs.YthflimnpiglgbaaDoor.LibMap Go.Proofs.YthflimnpiglgbaaDoor.A
attribute [local go_sem] max2_int min2_int max_two min_two max_three min_three max_four min_four
def bit (x i : Int) : Int := Go.bits .and .i64 (shr .i64 (wrap64 x) i) 1
def byteBits (x : Int) : Nat → List Int
  | 0 => []
  | i + 1 => bit x (i : Int) :: byteBits x i
def listBits : List Int → List Int
  | [] => []
  | x :: l => byteBits x 8 ++ listBits l
/-- What the bits decode to, from a state on: the code begun (its bits, how many) and what is there. -/
def uh : List Int → Int → Int → List Int → List Int
  | [], _, _, out => out
  | d :: ds, acc, n, out =>
    match lookC (Go.bits .or .i64 (wrap64 (acc * 2)) d, wrap64 (n + 1)) with
    | some j => if j = 256 then out else if wrap64 (n + 1) > 30 then out else uh ds 0 0 (out ++ [(j : Int) % 256])
    | none => if wrap64 (n + 1) > 30 then out else uh ds (Go.bits .or .i64 (wrap64 (acc * 2)) d) (wrap64 (n + 1)) out
theorem wf_or (a d n : Int) : wf (Go.bits .or .i64 a d, wrap64 n) := by
  unfold wf
  refine ⟨?_, ?_⟩
  · unfold Go.bits
    simp only [IntKind.wrap_i64]
    omega
  · unfold wrap64
    omega
theorem ne_map {P : Program} {w : World} {k : TypeId} {R : Value → Option (DataW Unit × List MemPlace)} {b n e base : Nat} {D : DataW Unit} {ok : Nat → Prop} {v : Value} {xs : List Int} (h : w.ownsMap P k R b n D) (ho : Kd.R (Kd.int .u8) e w base ok v xs) : some b ≠ v.ownBlock := by
  intro hb
  obtain ⟨inner, hown⟩ := Kd.R_own ho
  obtain ⟨cells, hc⟩ := own_typed hown b hb.symm
  obtain ⟨es, clock, hm, _⟩ := h
  rw [hc] at hm
  cases hm
set_option maxHeartbeats 8000000 in
set_option maxRecDepth 100000 in
theorem unHuff_calls (g : Nat) (A : Option Addr) (c : Nat) (l : List Int) (w : World) (hA : Arr 62 w g codes) (hr0 : Kd.C (Kd.int .u8) w A l.length l) (hc0 : l.length ≤ c) (hl : l.length ≤ 4294967296) :
    Calls Tryd.prog 47 #[.pointer (some ⟨g, 0, none⟩), .slice A l.length c] w fun e w' => e = .returned (.string (strOfNums (uh (listBits l) 0 0 []))) ∧ Below w.heap.size w w' := by
  have HA := Aside0.mk hA
  have HC := Aside0.mk hr0
  have HB := Aside0.mk (Below.refl w.heap.size w)
  have HL := Aside0.mk hl
  clear hA hr0 hl
  have hmm := @run_makeMap Tryd.prog
  go_enter Tryd.func47, Tryd.ntmps47
  go_wp2
  have n0_ : Aside0 ((w.alloc (.map #[] 0)).ownsMap Tryd.prog 47 (plainElem Tryd.prog 3) w.heap.size 0 (D 0)) := ⟨World.ownsMap_made _ _ _ _⟩
  have n1_ := Aside0.mk (HA.out.alloc (.map #[] 0))
  have n2_ := Aside0.mk (HB.out.alloc (Nat.le_refl _) (.map #[] 0))
  have HG := Aside0.mk HA.out.lt
  clear HA HB
  go_loopw [18] (fun v18 wr => ∃ k : Nat, k ≤ 257 ∧ v18 = .int .i64 k ∧ Aside0 (wr.ownsMap Tryd.prog 47 (plainElem Tryd.prog 3) w.heap.size k (D k)) ∧ Aside0 (Arr 62 wr g codes) ∧ Aside0 (Below w.heap.size w wr)) (fun v18 _ => 257 - (intOf v18).toNat)
  case atStart => exact ⟨0, by omega, rfl, n0_, n1_, n2_⟩
  case round =>
    clear n0_ n1_ n2_
    obtain ⟨k, hk, rfl, HM, HA, HB⟩ := hrel
    by_cases hlt : k < 257
    · have hcl := codes_len
      obtain ⟨⟨bi, sz⟩, hp⟩ : ∃ p, p = codes.getD k (0, 0) := ⟨_, rfl⟩
      have hc0 := HA.out.bits k (by omega)
      have hc1 := HA.out.size k (by omega)
      rw [← hp] at hc0 hc1
      have hw := code_wf k
      rw [← hp] at hw
      have HP := Aside0.mk hp
      have HW := Aside0.mk hw
      clear hp hcl hw
      have hgl := HA.out.lt
      have hgn : g ≠ wr.heap.size := by omega
      go_wp2
      go_region
      all_goals go_wp2_with (at_mapUpdate; refine wpList_mapUpdate_own _ rfl _ _ _ 72 rfl 47 3 law Tryd.underlying72 _ w.heap.size k (D k) rfl (HM.out.alloc _ : World.ownsMap _ _ _ _ _ _ _) (by unfold maxLen; omega) _ _ _ rfl rfl (key_of (bi, sz) HW.out) _ [] (plainElem_int Tryd.underlying3 (wf_i64 (by omega))) ?_; intro w1 hown1 hgrow1; have n0_ := Aside0.mk hown1; have HG1 := Aside0.mk hgrow1; clear hown1 hgrow1)
      go_roundw
      case rel =>
        refine ⟨k + 1, by omega, by go_num, ⟨?_⟩, ⟨?_⟩, ⟨?_⟩⟩
        · have e : D (k + 1) = (D k).put (kl (codes.getD k (0, 0))) (.lit (.int .i64 (k : Int))) := rfl
          rw [e, ← HP.out]
          exact n0_.out
        · exact Arr.grown (Arr.drew (Arr.alloc HA.out _)) HG1.out (by intro e; have := HG.out; simp at e; omega)
        · exact pw_below_grown (below_drew (HB.out.alloc HB.out.size _)) _ (by have := HB.out.size; simp [World.drew]; omega) HG1.out (fun k hk => by simp at hk; omega)
      case measure => simp [intOf]; omega
    · have hk7 : k = 257 := by omega
      have HM2 := Aside0.mk HM.out
      rw [hk7] at HM2
      have hd7 : decide ((k : Int) < 257) = false := decide_eq_false (by omega)
      clear HA HM hlt hk hk7
      go_wp2
      have n0_ : Aside0 ((wr.alloc (.cells #[Value.int IntKind.i64 0, Value.int IntKind.i64 0] 47)).heap[wr.heap.size]? = some (.cells #[Value.int IntKind.i64 0, Value.int IntKind.i64 0] 47 (0, 0))) := ⟨(MapKept.heap_alloc wr _).1⟩
      have n1_ := Aside0.mk (HM2.out.alloc (.cells #[Value.int IntKind.i64 0, Value.int IntKind.i64 0] 47))
      have n2_ := Aside0.mk (HB.out.alloc HB.out.size (.cells #[Value.int IntKind.i64 0, Value.int IntKind.i64 0] 47))
      have n3_ := Aside0.mk (show w.heap.size ≤ wr.heap.size ∧ w.heap.size ≠ wr.heap.size from ⟨HB.out.size, by have := HM2.out.lt; omega⟩)
      generalize wr.alloc (.cells #[Value.int IntKind.i64 0, Value.int IntKind.i64 0] 47) = w2 at n0_ n1_ n2_ ⊢
      generalize wr.heap.size = cb at n0_ n3_ ⊢
      clear HM2 HB
      go_loopw [30, 8] (fun v30 v8 wr => ∃ (j : Nat) (acc n : Int) (out : List Int), j ≤ l.length ∧ v30 = .int .i64 j ∧ Aside0 (Kd.R (Kd.int .u8) 5 wr w.heap.size (fun _ => True) v8 out) ∧ Aside0 (wr.heap[cb]? = some (.cells #[Value.int IntKind.i64 acc, Value.int IntKind.i64 n] 47 (0, 0))) ∧ Aside0 (wr.ownsMap Tryd.prog 47 (plainElem Tryd.prog 3) w.heap.size 257 (D 257)) ∧ Aside0 (Below w.heap.size w wr) ∧ Aside0 (out.length ≤ 8 * j) ∧ Aside0 (uh (listBits (l.drop j)) acc n out = uh (listBits l) 0 0 [])) (fun v30 _ _ => l.length - (intOf v30).toNat)
      case atStart => exact ⟨0, 0, 0, [], by omega, rfl, ⟨Kd.R_nil _ _ _ _ _⟩, n0_, n1_, n2_, ⟨by simp⟩, ⟨rfl⟩⟩
      case round =>
        clear n0_ n1_ n2_
        obtain ⟨j, acc, n, out, hj, rfl, HO, HX, HM, HB, HN, HU⟩ := hrel
        by_cases hlt : j < l.length
        · obtain ⟨x, hx⟩ : ∃ x, x = rd l (j : Int) := ⟨_, rfl⟩
          obtain ⟨ad, e0, hxc⟩ := Kd.at_int (Kd.C_below HC.out HB.out) (j : Int) (by omega) (by omega)
          subst e0
          rw [← hx, Int.toNat_natCast] at hxc
          have hd : listBits (l.drop j) = byteBits x 8 ++ listBits (l.drop (j + 1)) := by
            have e : l[j] = x := by rw [hx]; simp [rd, List.getD_eq_getElem?_getD, List.getElem?_eq_getElem hlt]
            rw [List.drop_eq_getElem_cons hlt, listBits, e]
          have HU2 := Aside0.mk HU.out
          rw [hd] at HU2
          have HX0 := Aside0.mk hx
          clear hd HU hx
          go_wp2
          have HN1 : Aside0 ((out.length : Int) ≤ 8 * (j : Int) + (7 - 7)) := ⟨by have := HN.out; omega⟩
          clear HN
          go_loopw [12, 8] (fun v12 v8 wr => ∃ (i acc n : Int) (out : List Int), -1 ≤ i ∧ i ≤ 7 ∧ v12 = .int .i64 i ∧ Aside0 (Kd.R (Kd.int .u8) 5 wr w.heap.size (fun _ => True) v8 out) ∧ Aside0 (wr.heap[cb]? = some (.cells #[Value.int IntKind.i64 acc, Value.int IntKind.i64 n] 47 (0, 0))) ∧ Aside0 (wr.ownsMap Tryd.prog 47 (plainElem Tryd.prog 3) w.heap.size 257 (D 257)) ∧ Aside0 (Below w.heap.size w wr) ∧ Aside0 ((out.length : Int) ≤ 8 * (j : Int) + (7 - i)) ∧ Aside0 (uh (byteBits x (i + 1).toNat ++ listBits (l.drop (j + 1))) acc n out = uh (listBits l) 0 0 [])) (fun v12 _ _ => (intOf v12 + 1).toNat)
          case atStart => exact ⟨7, acc, n, out, by omega, by omega, rfl, HO, HX, HM, HB, HN1, HU2⟩
          case round =>
            clear HO HX HM HB HN1 HU2
            obtain ⟨i, acc, n, out, hi0, hi1, rfl, HO, HX, HM, HB, HN, HU⟩ := hrel
            by_cases hi : 0 ≤ i
            · have ei : (i + 1).toNat = i.toNat + 1 := by omega
              have HU1 := HU.out
              rw [ei] at HU1
              have eb : byteBits x (i.toNat + 1) = bit x i :: byteBits x i.toNat := by
                show bit x (i.toNat : Int) :: byteBits x i.toNat = _
                rw [Int.toNat_of_nonneg hi]
              rw [eb, List.cons_append, uh] at HU1
              have ew : IntKind.u64.wrap i = i := by unfold IntKind.wrap; simp only [IntKind.signed, IntKind.bits, Bool.false_and, Bool.false_eq_true, if_false]; omega
              obtain ⟨d, hd⟩ : ∃ d, d = bit x i := ⟨_, rfl⟩
              rw [← hd] at HU1
              have hd' : Go.bits .and .i64 (shr .i64 (wrap64 x) i) 1 = d := hd.symm
              obtain ⟨s0, hs0⟩ : ∃ s0, s0 = shr .i64 (wrap64 x) i := ⟨_, rfl⟩
              rw [← hs0] at hd'
              have hs1 : wrap64 x / 2 ^ min i.toNat 64 = s0 := hs0.symm
              have hs2 : wrap64 x / 2 ^ i.toNat = s0 := by rw [← hs1]; congr 2; omega
              have hwf := wf_or (wrap64 (acc * 2)) d (n + 1)
              obtain ⟨a1, ha1⟩ : ∃ a1, a1 = Go.bits .or .i64 (wrap64 (acc * 2)) d := ⟨_, rfl⟩
              obtain ⟨m1, hm1⟩ : ∃ m1, m1 = wrap64 (n + 1) := ⟨_, rfl⟩
              rw [← ha1, ← hm1] at hwf HU1
              have ha1' := ha1.symm
              have hm1' := hm1.symm
              have HU2 := Aside0.mk HU1
              have HWF := Aside0.mk hwf
              have hc0 : wr.cell? ⟨cb, 0, none⟩ = some (.int .i64 acc) := by rw [blk_cell HX.out]; rfl
              have hc1 : wr.cell? ⟨cb, 1, none⟩ = some (.int .i64 n) := by rw [blk_cell HX.out]; rfl
              have hf0 : wr.frozen? ⟨cb, 0, none⟩ = false := blk_frozen HX.out 0
              have hf1 : wr.frozen? ⟨cb, 1, none⟩ = false := blk_frozen HX.out 1
              have b0_ := blk_set HX.out 0 (.int .i64 a1)
              have b1_ : ((wr.setCell ⟨cb, 0, none⟩ (.int .i64 a1)).setCell ⟨cb, 1, none⟩ (.int .i64 m1)).heap[cb]? = some (.cells #[Value.int IntKind.i64 a1, Value.int IntKind.i64 m1] 47 (0, 0)) := blk_set b0_ 1 (.int .i64 m1)
              have n0_ := Aside0.mk b1_
              have n1_ := Aside0.mk (Kd.R_set (Kd.R_set HO.out HX.out (by decide) 0 (.int .i64 a1)) b0_ (by decide) 1 (.int .i64 m1))
              have n2_ := Aside0.mk ((HM.out.setCell (a := ⟨cb, 0, none⟩) n3_.out.2 (.int .i64 a1)).setCell (a := ⟨cb, 1, none⟩) n3_.out.2 (.int .i64 m1))
              have n4_ := Aside0.mk ((HB.out.setCell (p := ⟨cb, 0, none⟩) n3_.out.1 (.int .i64 a1)).setCell (p := ⟨cb, 1, none⟩) n3_.out.1 (.int .i64 m1))
              clear hd hs0 hwf ha1 hm1 HU HU1 ei eb b0_ b1_ HO HX HM HB
              have hi' : decide (0 ≤ i) = true := decide_eq_true hi
              cases hlk : lookC (a1, m1) with
              | none =>
                have hH : Maps.has (D 257) (kl (a1, m1)) = false := by rw [D_has _ HWF.out]; unfold lookC at hlk; rw [hlk]; rfl
                have HH := Aside0.mk hH
                have HU := HU2.out
                rw [hlk] at HU
                simp only at HU
                by_cases hm30 : m1 > 30
                · have hm30' : decide (30 < m1) = true := decide_eq_true hm30
                  rw [if_pos hm30] at HU
                  have HU3 := Aside0.mk HU
                  clear HU hlk hH HU2
                  go_wp2_with (at_lookup; refine wpList_lookup_own_ok_int _ rfl _ _ 72 rfl 47 3 .i64 law Tryd.underlying72 Tryd.underlying3 (zero3 _) w.heap.size 257 (D 257) rfl n2_.out _ _ rfl (key_of (a1, m1) HWF.out) ?_; intro c1 hat hwc; rw [HH.out]; clear hat; clear hwc; generalize (wr.setCell ⟨cb, 0, none⟩ (.int .i64 a1)).setCell ⟨cb, 1, none⟩ (.int .i64 m1) = w3 at n0_ n1_ n2_ n4_ ⊢; have hx1 : w3.cell? ⟨cb, 1, none⟩ = some (.int .i64 m1) := (blk_cell n0_.out 1); have hcv := own_string (P := Tryd.prog) Tryd.underlying26 Tryd.underlying5 Tryd.underlying9 (Kd.own_of_R n1_.out))
                  go_ret
                  refine ⟨?_, n4_.out⟩
                  rw [HU3.out]; rfl
                · have hm30' : decide (30 < m1) = false := decide_eq_false hm30
                  rw [if_neg hm30] at HU
                  have HU3 := Aside0.mk HU
                  clear HU hlk hH HU2
                  go_wp2_with (at_lookup; refine wpList_lookup_own_ok_int _ rfl _ _ 72 rfl 47 3 .i64 law Tryd.underlying72 Tryd.underlying3 (zero3 _) w.heap.size 257 (D 257) rfl n2_.out _ _ rfl (key_of (a1, m1) HWF.out) ?_; intro c1 hat hwc; rw [HH.out]; clear hat; clear hwc; generalize (wr.setCell ⟨cb, 0, none⟩ (.int .i64 a1)).setCell ⟨cb, 1, none⟩ (.int .i64 m1) = w3 at n0_ n1_ n2_ n4_ ⊢; have hx1 : w3.cell? ⟨cb, 1, none⟩ = some (.int .i64 m1) := (blk_cell n0_.out 1); have hcv := own_string (P := Tryd.prog) Tryd.underlying26 Tryd.underlying5 Tryd.underlying9 (Kd.own_of_R n1_.out))
                  go_roundw
                  case rel => exact ⟨i - 1, a1, m1, out, by omega, by omega, by first | rfl | (simp; done) | go_num, n1_, n0_, n2_, n4_, ⟨by have := HN.out; omega⟩, ⟨by rw [show i - 1 + 1 = i by omega]; exact HU3.out⟩⟩
                  case measure => simp [intOf]; omega
              | some jj =>
                have hjj : jj < 257 := lookN_lt _ _ _ hlk
                have hH : Maps.has (D 257) (kl (a1, m1)) = true := by rw [D_has _ HWF.out]; unfold lookC at hlk; rw [hlk]; rfl
                have HH := Aside0.mk hH
                have HU := HU2.out
                rw [hlk] at HU
                simp only at HU
                obtain ⟨jz, hjz⟩ : ∃ jz : Int, jz = (jj : Int) := ⟨_, rfl⟩
                have HC1 : Aside0 (∀ c1 : Int, (D 257).atKey (kl (a1, m1)) (.lit (.int .i64 0)) = .lit (.int .i64 c1) → c1 = jz) := ⟨fun c1 h => by
                  rw [D_at _ HWF.out] at h
                  unfold lookC at hlk
                  rw [hlk] at h
                  simp at h
                  rw [hjz]
                  exact h.symm⟩
                rw [← hjz] at HU
                have hjr : 0 ≤ jz ∧ jz < 257 := by omega
                by_cases h256 : jj = 256
                · have hz : (jz == 256) = true := by rw [hjz, h256]; rfl
                  rw [if_pos h256] at HU
                  have HU3 := Aside0.mk HU
                  clear HU hlk hH HU2 hjz h256 hjj hjr
                  go_wp2_with (at_lookup; refine wpList_lookup_own_ok_int _ rfl _ _ 72 rfl 47 3 .i64 law Tryd.underlying72 Tryd.underlying3 (zero3 _) w.heap.size 257 (D 257) rfl n2_.out _ _ rfl (key_of (a1, m1) HWF.out) ?_; intro c1 hat hwc; rw [HH.out]; have hcc := (HC1.out _ hat).symm; subst hcc; clear hat; clear hwc; generalize (wr.setCell ⟨cb, 0, none⟩ (.int .i64 a1)).setCell ⟨cb, 1, none⟩ (.int .i64 m1) = w3 at n0_ n1_ n2_ n4_ ⊢; have hx1 : w3.cell? ⟨cb, 1, none⟩ = some (.int .i64 m1) := (blk_cell n0_.out 1); have hcv := own_string (P := Tryd.prog) Tryd.underlying26 Tryd.underlying5 Tryd.underlying9 (Kd.own_of_R n1_.out))
                  go_ret
                  refine ⟨?_, n4_.out⟩
                  rw [HU3.out]; rfl
                · have hz : (jz == 256) = false := by rw [beq_eq_false_iff_ne, hjz]; omega
                  rw [if_neg h256] at HU
                  by_cases hm30 : m1 > 30
                  · have hm30' : decide (30 < m1) = true := decide_eq_true hm30
                    rw [if_pos hm30] at HU
                    have HU3 := Aside0.mk HU
                    clear HU hlk hH HU2 hjz h256 hjj hjr
                    go_wp2_with (at_lookup; refine wpList_lookup_own_ok_int _ rfl _ _ 72 rfl 47 3 .i64 law Tryd.underlying72 Tryd.underlying3 (zero3 _) w.heap.size 257 (D 257) rfl n2_.out _ _ rfl (key_of (a1, m1) HWF.out) ?_; intro c1 hat hwc; rw [HH.out]; have hcc := (HC1.out _ hat).symm; subst hcc; clear hat; clear hwc; generalize (wr.setCell ⟨cb, 0, none⟩ (.int .i64 a1)).setCell ⟨cb, 1, none⟩ (.int .i64 m1) = w3 at n0_ n1_ n2_ n4_ ⊢; have hx1 : w3.cell? ⟨cb, 1, none⟩ = some (.int .i64 m1) := (blk_cell n0_.out 1); have hcv := own_string (P := Tryd.prog) Tryd.underlying26 Tryd.underlying5 Tryd.underlying9 (Kd.own_of_R n1_.out))
                    go_ret
                    refine ⟨?_, n4_.out⟩
                    rw [HU3.out]; rfl
                  · have hm30' : decide (30 < m1) = false := decide_eq_false hm30
                    rw [if_neg hm30] at HU
                    have HU3 := Aside0.mk HU
                    clear HU hlk hH HU2 hjz h256 hjj hjr
                    go_wp2_with (first | (at_lookup; refine wpList_lookup_own_ok_int _ rfl _ _ 72 rfl 47 3 .i64 law Tryd.underlying72 Tryd.underlying3 (zero3 _) w.heap.size 257 (D 257) rfl n2_.out _ _ rfl (key_of (a1, m1) HWF.out) ?_; intro c1 hat hwc; rw [HH.out]; have hcc := (HC1.out _ hat).symm; subst hcc; clear hat; clear hwc; generalize (wr.setCell ⟨cb, 0, none⟩ (.int .i64 a1)).setCell ⟨cb, 1, none⟩ (.int .i64 m1) = w3 at n0_ n1_ n2_ n4_ ⊢; have hx1 : w3.cell? ⟨cb, 1, none⟩ = some (.int .i64 m1) := (blk_cell n0_.out 1); have hcv := own_string (P := Tryd.prog) Tryd.underlying26 Tryd.underlying5 Tryd.underlying9 (Kd.own_of_R n1_.out)) | ((with_reducible refine gate_builtin (b := .append) (xs := #[.tmp 72, .tmp 75]) rfl ?_); at_builtin; refine Kd.R_append (Kd.int .u8) (w0 := w) w.heap.size rfl (.tmp 72) (.tmp 75) 26 5 (.int .u8 0) 1 rfl Tryd.underlying26 info5 rfl (by decide) (by omega) u8 out (jz % 256) [.int .u8 (jz % 256)] (fun _ => True) (fun _ => False) rfl rfl rfl (fun _ hk => hk.elim) (fun _ _ => trivial) n1_.out n4_.out n4_.out.size (by have := HN.out; have := HL.out; omega) ?_; intro v1 w4 ho hb hg hat; have m0_ := Aside0.mk ho; have m1_ := Aside0.mk hb; have m2_ := Aside0.mk (blk_grown n0_.out hg (Kd.R_ne n1_.out n0_.out (by decide))); have m3_ := Aside0.mk (n2_.out.kept hg (ne_map n2_.out n1_.out)); clear ho hb hg hat hcv hx1; have hy0 : w4.cell? ⟨cb, 0, none⟩ = some (.int .i64 a1) := (blk_cell m2_.out 0); have hy1 : w4.cell? ⟨cb, 1, none⟩ = some (.int .i64 m1) := (blk_cell m2_.out 1); have hg0 := blk_frozen m2_.out 0; have hg1 := blk_frozen m2_.out 1))
                    have b0_ := blk_set m2_.out 0 (.int .i64 0)
                    have b1_ : ((w4.setCell ⟨cb, 0, none⟩ (.int .i64 0)).setCell ⟨cb, 1, none⟩ (.int .i64 0)).heap[cb]? = some (.cells #[Value.int IntKind.i64 0, Value.int IntKind.i64 0] 47 (0, 0)) := blk_set b0_ 1 (.int .i64 0)
                    go_roundw
                    case rel => exact ⟨i - 1, 0, 0, out ++ [jz % 256], by omega, by omega, by first | rfl | (simp; done) | go_num, ⟨Kd.R_set (Kd.R_set m0_.out m2_.out (by decide) 0 (.int .i64 0)) b0_ (by decide) 1 (.int .i64 0)⟩, ⟨b1_⟩, ⟨(m3_.out.setCell (a := ⟨cb, 0, none⟩) n3_.out.2 (.int .i64 0)).setCell (a := ⟨cb, 1, none⟩) n3_.out.2 (.int .i64 0)⟩, ⟨(m1_.out.setCell (p := ⟨cb, 0, none⟩) n3_.out.1 (.int .i64 0)).setCell (p := ⟨cb, 1, none⟩) n3_.out.1 (.int .i64 0)⟩, ⟨by have := HN.out; simp; omega⟩, ⟨by rw [show i - 1 + 1 = i by omega]; exact HU3.out⟩⟩
                    case measure => simp [intOf]; omega
            · have hi' : decide (0 ≤ i) = false := decide_eq_false hi
              have hi1' : i = -1 := by omega
              have HU1 := HU.out
              rw [hi1', show ((-1 : Int) + 1).toNat = 0 from rfl, byteBits, List.nil_append] at HU1
              have HU2 := Aside0.mk HU1
              have HI := Aside0.mk hi1'
              clear HU1 HU hi1' hi
              have hll := HL.out
              go_wp2
              go_roundw
              case rel => exact ⟨j + 1, acc, n, out, by omega, by go_num, HO, HX, HM, HB, ⟨by have := HN.out; have := HI.out; omega⟩, HU2⟩
              case measure => simp [intOf]; omega
        · have hjl : j = l.length := by omega
          have HU1 := HU.out
          rw [hjl, List.drop_length, listBits, uh] at HU1
          have HU3 := Aside0.mk HU1
          have hcv := own_string (P := Tryd.prog) Tryd.underlying26 Tryd.underlying5 Tryd.underlying9 (Kd.own_of_R HO.out)
          have hlt' : decide (j < l.length) = false := decide_eq_false hlt
          clear HU1 HU hjl
          go_wp2
          go_ret
          refine ⟨?_, HB.out⟩
          rw [HU3.out]; rfl
end Go.Proofs.YthflimnpiglgbaaDoor.LibUnH
