/- codesOf: the call hands back a new block that holds all codes. Condition: the library's own variable is there. -/
import Derived.Test.YthflimnpiglgbaaDoorLibLens
import Derived.Test.YthflimnpiglgbaaDoorShelf
import Derived.Great.Walk
import Derived.WalkKit
import Derived.BigCall
import Derived.Deep.LoopGhost
set_option linter.unusedVariables false
set_option linter.unusedSimpArgs false
namespace Go.Proofs.YthflimnpiglgbaaDoor.LibCodes
open Go Go.RowKit Go.Proofs.YthflimnpiglgbaaDoorW.PrintWords Go.Proofs.YthflimnpiglgbaaDoor.LibLens
theorem run_alloc (w : World) : (Instr.alloc 62 true (.tuple #[])).run Tryd.prog w = .ok (.pointer (some ⟨w.heap.size, 0, none⟩)) (w.alloc (.cells (cellsOf (List.replicate 257 (0, 0))).toArray 62)) := by kernel_rfl
theorem split_calls (s : ByteArray) (m : Int) (w : World) (hm : w.cell? ⟨2, 0, none⟩ = some (.int .i64 m)) (hs : s.data.toList = bar parts) (hz : s.size < 4294967281) :
    Calls Tryd.prog 57 #[.string s, .string ⟨#[32]⟩] w fun e w' => ∃ b, e = .returned (.slice (some ⟨b, 0, none⟩) 257 257) ∧ w.heap.size ≤ b ∧ w'.heap[b]? = some (.cells (strs.map Value.string).toArray 9 (0, 0)) ∧ Below w.heap.size w w' := by
  obtain ⟨h1, h2⟩ := split_text s hs
  refine (Tryd.strings_Split s ⟨#[32]⟩ m w hz hm (by decide)).mono ?_
  rintro e w' ⟨rfl, rfl⟩
  rw [h1, h2]
  refine ⟨w.heap.size, rfl, Nat.le_refl _, ?_, (Below.refl _ w).alloc (Nat.le_refl _) _⟩
  exact (MapKept.heap_alloc w _).1
theorem atoi_calls (s : ByteArray) (n : Int) (hl : s.size ≤ 18) (h : Lib.atoi s.data.toList = some n) (w : World) :
    Calls Tryd.prog 58 #[.string s] w fun e w' => e = .returned (.tuple #[.int .i64 n, .nilIface]) ∧ Below w.heap.size w w' := by
  refine (Tryd.strconv_Atoi s n hl h w).mono ?_
  rintro e w' ⟨rfl, t, rfl⟩
  exact ⟨rfl, bytes_below (Below.refl _ w) (Nat.le_refl _) 5 t⟩
theorem wpList_alloc62 {ops : Array Oper} {rest : List Oper} {o : Oper} {a : Act} {w : World} {Q : Exit → Act → World → Prop} (hg : o.guard = none) (dst : Option Tmp) (hdst : o.dst = dst) (ho : o.op = .alloc 62)
    (h : ∀ g w1, w.heap.size ≤ g → Arr 62 w1 g (List.replicate 257 (0, 0)) → Below w.heap.size w w1 → w.heap.size + 1 = w1.heap.size → wpList Tryd.prog ops Q rest (a.put dst (.pointer (some ⟨g, 0, none⟩))) w1) : wpList Tryd.prog ops Q (o :: rest) a w := by
  refine Go.Great.wpList_runTo hg dst hdst (.pointer (some ⟨w.heap.size, 0, none⟩)) (w.alloc (.cells (cellsOf (List.replicate 257 (0, 0))).toArray 62)) ?_ (h _ _ (Nat.le_refl _) ?_ ((Below.refl _ w).alloc (Nat.le_refl _) _) ?_)
  · obtain ⟨d, op, ty, ps, af, gd⟩ := o
    obtain rfl : op = .alloc 62 := ho
    kernel_rfl
  · exact (MapKept.heap_alloc w _).1
  · generalize (cellsOf (List.replicate 257 (0, 0))).toArray = cs
    simp
set_option maxHeartbeats 1600000 in
set_option maxRecDepth 100000 in
theorem codesOf_calls (m : Int) (w : World) (hm : Aside0 (w.cell? ⟨2, 0, none⟩ = some (.int .i64 m))) :
    Calls Tryd.prog 41 #[] w fun e w' => ∃ g, e = .returned (.pointer (some ⟨g, 0, none⟩)) ∧ w.heap.size ≤ g ∧ Arr 62 w' g codes ∧ Below w.heap.size w w' := by
  go_enter Tryd.func41, Tryd.ntmps41
  go_wp2_with (first | ((with_reducible refine wpList_alloc62 rfl _ rfl rfl ?_); intro g w1 hg HA0 HB0 hz0) | (go_at_call 57; refine (split_calls _ m _ (pw_cell_below HB0 hm.out) (by kernel_rfl) (by decide +kernel)).mono ?_; rintro e w2 ⟨b, rfl, hb0, hS0, HB2⟩))
  have HA1 := HA0.below HB2
  have HB1 := below_then HB0 HB0.size HB2
  have hgb : g ≠ b := by have := HA0.lt; omega
  have HS : Aside0 (w2.heap[b]? = some (.cells (strs.map Value.string).toArray 9 (0, 0))) := ⟨hS0⟩
  have HG : Aside0 (w.heap.size ≤ g ∧ w.heap.size ≤ b) := ⟨hg, by have := HB0.size; omega⟩
  clear hz0 HA0 HB0 HB2 hS0 hb0 hg
  go_loopw [9] (fun v9 wr => ∃ k : Nat, k ≤ 257 ∧ v9 = .int .i64 k ∧ Aside0 (Arr 62 wr g (readA k)) ∧ Aside0 (wr.heap[b]? = some (.cells (strs.map Value.string).toArray 9 (0, 0))) ∧ Aside0 (Below w.heap.size w wr)) (fun v9 _ => 257 - (intOf v9).toNat)
  case atStart => exact ⟨0, by omega, rfl, ⟨by rw [readA_zero]; exact HA1⟩, HS, ⟨HB1⟩⟩
  case round =>
    clear HA1 HB1 HS
    obtain ⟨k, hk, rfl, HA, HS, HB⟩ := hrel
    by_cases hlt : k < 257
    · obtain ⟨s, hs⟩ : ∃ s, s = strs.getD k ByteArray.empty := ⟨_, rfl⟩
      obtain ⟨n, hn⟩ : ∃ n : Int, n = ((lens.getD k 0 : Nat) : Int) := ⟨_, rfl⟩
      have hcell : wr.cell? ⟨b, k, none⟩ = some (.string s) := by
        have hl := strs_len
        rw [blk_cell HS.out, hs]
        simp [List.getD_eq_getElem?_getD, List.getElem?_eq_getElem (show k < strs.length by omega)]
      have hat := str_at k hlt
      rw [← hs, ← hn] at hat
      have HT := Aside0.mk hat
      have HN := Aside0.mk hn
      clear hat hs hn
      go_wp2_with (go_at_call 58; refine (atoi_calls s n HT.out.2 HT.out.1 _).mono ?_; rintro e w3 ⟨rfl, HB3⟩; have HA3 := Aside0.mk (HA.out.below HB3); have HS3 := Aside0.mk (blk_below HS.out HB3); have hc3 := HA3.out.size k (by rw [readA_len k hk]; exact hlt); rw [readA_at k hlt] at hc3; have hf3 := HA3.out.free (k * 2 + 1); have HW3 := Aside0.mk HB3; clear HB3)
      go_roundw
      case rel =>
        refine ⟨k + 1, by omega, by go_num, ⟨?_⟩, ⟨?_⟩, ⟨?_⟩⟩
        · rw [readA_succ k hlt, ← HN.out]
          have := HA3.out.set_size k (by rw [readA_len k hk]; exact hlt) n
          rw [readA_at k hlt] at this
          exact this
        · exact blk_far HS3.out (by exact fun e => hgb e.symm) _
        · exact (below_then HB.out HB.out.size HW3.out).setCell (by exact HG.out.1) _
      case measure => simp [intOf]; omega
    · obtain rfl : k = 257 := by omega
      have HA1 := Aside0.mk HA.out
      rw [readA_all] at HA1
      clear HA HS
      go_wp2
      go_loopw [5, 4] (fun v5 v4 wr => ∃ s : Nat, s ≤ 30 ∧ v5 = .int .i64 ((s : Int) + 1) ∧ v4 = .int .i64 (upto s).2 ∧ Aside0 (Arr 62 wr g (upto s).1) ∧ Aside0 (Below w.heap.size w wr)) (fun v5 _ _ => 31 - (intOf v5).toNat)
      case atStart => exact ⟨0, by omega, rfl, rfl, HA1, HB⟩
      case round =>
        clear HA1 HB
        obtain ⟨s, hs, rfl, rfl, HA, HB⟩ := hrel
        by_cases hlt2 : s < 30
        · obtain ⟨l, hl⟩ : ∃ l, l = (upto s).1 := ⟨_, rfl⟩
          obtain ⟨n0, hn0⟩ : ∃ n0, n0 = (upto s).2 := ⟨_, rfl⟩
          have hll : l.length = 257 := by rw [hl, upto_len]
          rw [← hl] at HA
          rw [← hn0]
          have HU := Aside0.mk (And.intro hl hn0)
          have HL := Aside0.mk hll
          clear hl hn0 hll
          have hd : decide ((s : Int) + 1 ≤ 30) = true := decide_eq_true (by omega)
          go_wp2
          go_loopw [29, 4] (fun v29 v4 wr => ∃ k : Nat, k ≤ 257 ∧ v29 = .int .i64 k ∧ v4 = .int .i64 (midN ((s : Int) + 1) l (wrap64 (n0 * 2)) k) ∧ Aside0 (Arr 62 wr g (midA ((s : Int) + 1) l (wrap64 (n0 * 2)) k)) ∧ Aside0 (Below w.heap.size w wr)) (fun v29 _ _ => 257 - (intOf v29).toNat)
          case atStart => exact ⟨0, by omega, rfl, rfl, HA, HB⟩
          case round =>
            clear HA HB
            obtain ⟨k, hk, rfl, rfl, HA, HB⟩ := hrel
            by_cases hlt : k < 257
            · have hkl : k < l.length := by rw [HL.out]; exact hlt
              have hml : k < (midA ((s : Int) + 1) l (wrap64 (n0 * 2)) k).length := by rw [midA_len]; exact hkl
              obtain ⟨m1, m2⟩ := mid_succ ((s : Int) + 1) l (wrap64 (n0 * 2)) k hkl
              have hsz := HA.out.size k hml
              have hbt := HA.out.bits k hml
              rw [midA_at _ _ _ _ hkl] at hsz hbt
              have HM := Aside0.mk hml
              clear hml hkl
              obtain ⟨A0, hA0⟩ : ∃ A0, A0 = midA ((s : Int) + 1) l (wrap64 (n0 * 2)) k := ⟨_, rfl⟩
              obtain ⟨N0, hN0⟩ : ∃ N0, N0 = midN ((s : Int) + 1) l (wrap64 (n0 * 2)) k := ⟨_, rfl⟩
              have hpat : (A0.getD k (0, 0)) = l.getD k (0, 0) := by rw [hA0]; exact midA_at _ _ _ _ (by rw [HL.out]; exact hlt)
              rw [← hA0, ← hN0] at m1 m2
              rw [← hA0] at HA HM
              rw [← hN0]
              obtain ⟨p, hp⟩ : ∃ p, p = l.getD k (0, 0) := ⟨_, rfl⟩
              rw [← hp] at m1 m2 hsz hbt hpat
              have HPA := Aside0.mk hpat
              obtain ⟨b0, s0⟩ := p
              have hf := HA.out.free (k * 2)
              by_cases hs0 : s0 = (s : Int) + 1
              · have M := Aside0.mk (m1 hs0)
                clear m1 m2 hA0 hN0 hp hpat
                subst hs0
                go_wp2
                go_roundw
                case rel =>
                  refine ⟨k + 1, by omega, by go_num, ?_, ⟨?_⟩, ⟨?_⟩⟩
                  · rw [M.out.2]
                  · rw [M.out.1]
                    have := HA.out.set_bits k HM.out N0
                    rw [HPA.out] at this
                    exact this
                  · exact HB.out.setCell (by exact HG.out.1) _
                case measure => simp [intOf]; omega
              · have M := Aside0.mk (m2 hs0)
                have hb0 : (s0 == (s : Int) + 1) = false := beq_eq_false_iff_ne.2 hs0
                clear m1 m2 hA0 hN0 hp hpat
                go_wp2
                go_roundw
                case rel =>
                  refine ⟨k + 1, by omega, by go_num, ?_, ⟨?_⟩, HB⟩
                  · rw [M.out.2]
                  · rw [M.out.1]
                    exact HA.out
                case measure => simp [intOf]; omega
            · obtain rfl : k = 257 := by omega
              obtain ⟨e1, e2⟩ := mid_all ((s : Int) + 1) l (wrap64 (n0 * 2)) 257 (by rw [HL.out]; omega)
              have HE := Aside0.mk (And.intro e1 e2)
              clear e1 e2
              go_wp2
              go_roundw
              case rel =>
                have h1 := HU.out.1
                have h2 := HU.out.2
                have e : upto (s + 1) = pass ((s : Int) + 1) (upto s).1 (wrap64 ((upto s).2 * 2)) := rfl
                refine ⟨s + 1, by omega, by go_num, ?_, ⟨?_⟩, HB⟩
                · rw [e, ← h1, ← h2, HE.out.2]
                · rw [e, ← h1, ← h2]
                  have := HA.out
                  rw [HE.out.1] at this
                  exact this
              case measure => simp [intOf]; omega
        · obtain rfl : s = 30 := by omega
          have HA1 := Aside0.mk HA.out
          rw [codes_upto] at HA1
          go_wp2
          go_ret
          exact ⟨g, rfl, HG.out.1, HA1.out, HB.out⟩
end Go.Proofs.YthflimnpiglgbaaDoor.LibCodes
