/- UnHuff: what the call answers. Condition: the library's own variable is there, and the theorem's own. -/
import Derived.Test.YthflimnpiglgbaaDoorLibWrap
set_option linter.unusedVariables false
set_option linter.unusedSimpArgs false
namespace Go.Proofs.YthflimnpiglgbaaDoor.LibWrap2
open Go Go.RowKit Go.Maps Go.Proofs.YthflimnpiglgbaaDoorW.PrintWords Go.Proofs.YthflimnpiglgbaaDoorW.PrintLast Go.Proofs.YthflimnpiglgbaaDoorW.PrintMore Go.Proofs.YthflimnpiglgbaaDoor.LibLens Go.Proofs.YthflimnpiglgbaaDoor.LibCodes Go.Proofs.YthflimnpiglgbaaDoor.LibHuff Go.Proofs.YthflimnpiglgbaaDoor.LibHuffB Go.Proofs.YthflimnpiglgbaaDoor.LibMap Go.Proofs.YthflimnpiglgbaaDoor.LibUnH Go.Proofs.YthflimnpiglgbaaDoor.A
theorem bytesIn {w : World} {A : Option Addr} {l : List Int} (h : Kd.C (Kd.int .u8) w A l.length l) : Lib.BytesIn w A l.length l := by
  obtain ⟨h1, h2, h3⟩ := Kd.reads_of_C (enc := Value.int .u8) (d := (0 : Int)) (h1 := fun _ => rfl) h
  intro h0
  obtain ⟨ad, rfl, hc⟩ := h3 h0
  exact Lib.BytesIn.of_cells (xs := l) (fun i hi => hc i hi) h0
def unF (k : Nat) (l : List Int) : Option (ByteArray × Bool) :=
  if l.length ≤ 4294967296 then (hf0 k (strOfNums (uh (listBits l) 0 0 [])) lensI bitsI [] 0 0 0).bind fun h => some (if (Lib.bytesOf h == Lib.bytesOf l) = true then (strOfNums (uh (listBits l) 0 0 []), true) else (⟨#[]⟩, false)) else none
theorem unF_mono (k : Nat) (l : List Int) : LeO (unF k l) (unF (k + 1) l) := by
  unfold unF
  refine LeO.ite (LeO.bind (hf_mono _ _ _ _ _ _ _ _) (fun _ => LeO.refl _)) (LeO.none _)
set_option maxHeartbeats 1600000 in
set_option maxRecDepth 100000 in
theorem UnHuff_calls (k : Nat) (A : Option Addr) (c : Nat) (l : List Int) (r1 : ByteArray) (r2 : Bool) (w : World) (hm : ∃ m, w.cell? ⟨2, 0, none⟩ = some (.int .i64 m)) (hr0 : Kd.C (Kd.int .u8) w A l.length l) (hc0 : l.length ≤ c) (h : unF k l = some (r1, r2)) :
    Calls Tryd.prog 28 #[.slice A l.length c] w fun e w' => e = .returned (.tuple #[.string r1, .bool r2]) ∧ Below w.heap.size w w' := by
  obtain ⟨m, hm⟩ := hm
  have HM := Aside0.mk hm
  have HC := Aside0.mk hr0
  clear hm hr0
  unfold unF at h
  by_cases hl : l.length ≤ 4294967296
  · rw [if_pos hl] at h
    obtain ⟨x, hx, h2⟩ := Option.bind_eq_some_iff.mp h
    obtain ⟨s, hs⟩ : ∃ s, s = strOfNums (uh (listBits l) 0 0 []) := ⟨_, rfl⟩
    rw [← hs] at hx h2
    have HX := Aside0.mk hx
    have HS := Aside0.mk hs
    have HL := Aside0.mk hl
    clear h hx hs hl
    have hcc := Aside0.mk hc0
    cases hq : (Lib.bytesOf x == Lib.bytesOf l) with
    | true =>
      rw [hq, if_pos rfl] at h2
      obtain ⟨rfl, rfl⟩ := Prod.mk.inj (Option.some.inj h2)
      have HQ := Aside0.mk hq
      clear hq h2
      go_enter Tryd.func28, Tryd.ntmps28
      go_wp2_with (first | (go_at_call 41; (with_reducible refine (codesOf_calls m _ HM).mono ?_); rintro e w1 ⟨g, rfl, hg, hA, hB⟩; have HA := Aside0.mk hA; have HB := Aside0.mk hB; clear hA hB hg) | (go_at_call 47; (with_reducible refine (unHuff_calls _ A c l _ HA.out (Kd.C_below HC.out HB.out) hcc.out HL.out).mono ?_); rintro e w2 ⟨rfl, hB2⟩; rw [← HS.out]; have HB2 := Aside0.mk (below_then HB.out HB.out.size hB2); have HA2 := Aside0.mk (HA.out.below hB2); clear hB2) | (go_at_call 44; (with_reducible refine (huff_calls k _ (fun _ => False) _ [] _ x w _ HB2.out HA2.out (Kd.R_nil _ _ _ _ _) HX.out).mono ?_); rintro e w3 ⟨v, rfl, hR, hB3, hK3⟩; obtain ⟨A3, c3, rfl⟩ := Kd.R_slice hR; have HR := Aside0.mk hR; have HB3 := Aside0.mk hB3; clear hR hB3 hK3) | (go_at_call 48; (with_reducible refine (Tryd.bytes_Equal_all _ _ _ _ _ _ x l _ rfl rfl (bytesIn (Kd.R_reads' HR.out).2.2) (bytesIn (Kd.C_below HC.out HB3.out))).mono ?_); rintro e w4 ⟨rfl, rfl⟩; rw [HQ.out]))
      go_ret2
      exact ⟨rfl, HB3.out⟩
    | false =>
      rw [hq, if_neg (by decide)] at h2
      obtain ⟨rfl, rfl⟩ := Prod.mk.inj (Option.some.inj h2)
      have HQ := Aside0.mk hq
      clear hq h2
      go_enter Tryd.func28, Tryd.ntmps28
      go_wp2_with (first | (go_at_call 41; (with_reducible refine (codesOf_calls m _ HM).mono ?_); rintro e w1 ⟨g, rfl, hg, hA, hB⟩; have HA := Aside0.mk hA; have HB := Aside0.mk hB; clear hA hB hg) | (go_at_call 47; (with_reducible refine (unHuff_calls _ A c l _ HA.out (Kd.C_below HC.out HB.out) hcc.out HL.out).mono ?_); rintro e w2 ⟨rfl, hB2⟩; rw [← HS.out]; have HB2 := Aside0.mk (below_then HB.out HB.out.size hB2); have HA2 := Aside0.mk (HA.out.below hB2); clear hB2) | (go_at_call 44; (with_reducible refine (huff_calls k _ (fun _ => False) _ [] _ x w _ HB2.out HA2.out (Kd.R_nil _ _ _ _ _) HX.out).mono ?_); rintro e w3 ⟨v, rfl, hR, hB3, hK3⟩; obtain ⟨A3, c3, rfl⟩ := Kd.R_slice hR; have HR := Aside0.mk hR; have HB3 := Aside0.mk hB3; clear hR hB3 hK3) | (go_at_call 48; (with_reducible refine (Tryd.bytes_Equal_all _ _ _ _ _ _ x l _ rfl rfl (bytesIn (Kd.R_reads' HR.out).2.2) (bytesIn (Kd.C_below HC.out HB3.out))).mono ?_); rintro e w4 ⟨rfl, rfl⟩; rw [HQ.out]))
      go_ret2
      exact ⟨rfl, HB3.out⟩
  · rw [if_neg hl] at h
    cases h
end Go.Proofs.YthflimnpiglgbaaDoor.LibWrap2
