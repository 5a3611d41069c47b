/- For every input: FnCodes answers true: no code of a byte is the beginning of another one's; each has its length. No condition. -/
import Derived.Test.YthflimnpiglgbaaDoorLibHc
import Derived.Test.YthflimnpiglgbaaDoorLibHp
import Derived.Test.YthflimnpiglgbaaDoorAx2
import Derived.Test.YthflimnpiglgbaaDoorAx6
import Derived.Test.YthflimnpiglgbaaDoorAx7
import Derived.Test.YthflimnpiglgbaaDoorAx8
set_option linter.unusedVariables false
set_option linter.unusedSimpArgs false
namespace Go.Proofs.YthflimnpiglgbaaDoor.Pure
open Go.RowKit Go.Proofs.YthflimnpiglgbaaDoor.A Go.Proofs.YthflimnpiglgbaaDoorW.PrintWords Go.Proofs.YthflimnpiglgbaaDoorW.PrintLast Go.Proofs.YthflimnpiglgbaaDoorW.PrintMore Go.Proofs.YthflimnpiglgbaaDoor.LibU Go.Proofs.YthflimnpiglgbaaDoor.LibHuff Go.Proofs.YthflimnpiglgbaaDoor.LibWrap Go.Proofs.YthflimnpiglgbaaDoor.LibHc Go.Proofs.YthflimnpiglgbaaDoor.LibHp
theorem at_ok (l : List Int) (h : ∀ x ∈ l, (Lit.int .u8 x).wf = true) (hl : l.length ≤ 140737488351232) (i : Nat) (hi : i ≤ 10) : ∃ a : Nat, a < 256 ∧ laws_at.f l (i : Int) = some (a : Int) := by
  unfold laws_at.f
  by_cases h1 : (i : Int) < (l.length : Int)
  · rw [if_pos h1, if_pos (by omega)]
    have hr : rd l (i : Int) = l[i] := by simp [rd, List.getD_eq_getElem?_getD, List.getElem?_eq_getElem (show i < l.length by omega)]
    have hb := wf8 (h _ (List.getElem_mem (show i < l.length by omega)))
    refine ⟨(l[i]).toNat, by omega, ?_⟩
    rw [hr, w64 (by omega) (by omega)]
    congr 1
    omega
  · rw [if_neg h1]
    refine ⟨(i * 31 + l.length * 7) % 256, by omega, ?_⟩
    rw [w64 (x := (i : Int) * 31) (by omega) (by omega), w64 (x := (l.length : Int) * 7) (by omega) (by omega), w64 (by omega) (by omega)]
    congr 1
theorem clen {a : Nat} (h : a < 256) : impl_CodeLen.f (a : Int) = some (cs a : Int) ∧ impl_CodeOf.f (a : Int) = some (cb a : Int) := by
  have hl := lens_at (i := (a : Int)) (by omega) (by omega)
  rw [Int.toNat_natCast] at hl
  refine ⟨?_, ?_⟩
  · show some (codeLenF (a : Int)) = _
    unfold codeLenF
    rw [if_pos (by omega), hl.1]
  · show some (codeOfF (a : Int)) = _
    unfold codeOfF
    rw [if_pos (by omega), hl.2]
theorem u64w {x : Int} (h0 : 0 ≤ x) (h1 : x ≤ 9223372036854775807) : IntKind.u64.wrap x = x := by
  unfold IntKind.wrap
  simp only [IntKind.signed, IntKind.bits, Bool.false_and, Bool.false_eq_true, if_false]
  omega
theorem shr_nat (x n : Nat) (hn : n ≤ 64) : shr .i64 (x : Int) (n : Int) = ((x / 2 ^ n : Nat) : Int) := by
  show (x : Int) / 2 ^ min (n : Int).toNat 64 = _
  rw [Int.toNat_natCast, Nat.min_eq_left hn]
  norm_cast
theorem shl_one (n : Nat) (hn : n ≤ 40) : shl .i64 1 (n : Int) = ((2 ^ n : Nat) : Int) := by
  have e : shl .i64 1 (n : Int) = IntKind.i64.wrap (1 * 2 ^ min (n : Int).toNat 64) := rfl
  have hp : (2 : Nat) ^ n ≤ 2 ^ 40 := Nat.pow_le_pow_right (by omega) hn
  rw [e, Int.toNat_natCast, Nat.min_eq_left (by omega), IntKind.wrap_i64]
  have e2 : ((1 : Int) * 2 ^ n) = ((2 ^ n : Nat) : Int) := by rw [Int.one_mul]; norm_cast
  rw [e2]
  generalize 2 ^ n = z at hp
  omega
theorem FnCodes : laws_FnCodes.Pure := by
  intro l _ hl hw
  refine ⟨8101, ?_⟩
  unfold laws_FnCodes.f
  by_cases hbig : (l.length : Int) > 1048576
  · refine bs (show laws_big.f l = some true from by unfold laws_big.f; rw [decide_eq_true hbig]) ?_
    rw [if_pos rfl]
  · refine bs (show laws_big.f l = some false from by unfold laws_big.f; rw [decide_eq_false hbig]) ?_
    rw [if_neg (by decide)]
    obtain ⟨a, ha, e1⟩ := at_ok l hw (by omega) 2 (by omega)
    obtain ⟨b, hb, e2⟩ := at_ok l hw (by omega) 3 (by omega)
    refine bs e1 ?_
    refine bs e2 ?_
    obtain ⟨c1, c2⟩ := clen ha
    obtain ⟨d1, d2⟩ := clen hb
    have ba := bnds (i := a) (by omega)
    have bb := bnds (i := b) (by omega)
    refine bs c1 ?_
    refine bs d1 ?_
    rw [if_neg (by omega), if_neg (by omega), if_neg (by omega), if_neg (by omega)]
    refine bs c2 ?_
    rw [if_pos (u64_nn _), u64w (by omega) (by omega), shl_one _ (by omega), decide_eq_false (by have := ba.2.2; omega)]
    simp only [laws_FnCodes.j0]
    rw [if_neg (by decide)]
    by_cases hab : a = b
    · subst hab
      rw [if_pos rfl]
      refine bs c2 ?_
      have hs : spec_CodeOf.f 8100 (a : Int) = some (cb a : Int) := by
        have hl2 := bitsI_len
        have hr := (lens_at (i := (a : Int)) (by omega) (by omega)).2
        rw [Int.toNat_natCast] at hr
        unfold spec_CodeOf.f
        refine bs (l1In a 0 256) ?_
        rw [if_pos (by simp; omega)]
        refine bs (codes 8100 (Nat.le_refl _)) ?_
        rw [if_pos (by omega), if_pos (by omega), hr]
      refine bs hs ?_
      simp
    · rw [if_neg (by omega)]
      by_cases hlt : (cs a : Int) > (cs b : Int)
      · rw [if_pos hlt]
        refine bs c2 ?_
        rw [if_pos (u64_nn _)]
        refine bs d2 ?_
        rw [w64 (by omega) (by omega), u64w (by omega) (by omega), show (cs a : Int) - (cs b : Int) = ((cs a - cs b : Nat) : Int) by omega, shr_nat _ _ (by omega)]
        have h := pre_ne (i := a) (j := b) (by omega) (by omega) (by omega)
        have h2 : ¬ (((cb a / 2 ^ (cs a - cs b) : Nat) : Int)) = (cb b : Int) := fun e => h (by omega)
        rw [bne_iff_ne.2 h2]
      · rw [if_neg hlt]
        refine bs d2 ?_
        rw [if_pos (u64_nn _)]
        refine bs c2 ?_
        rw [w64 (by omega) (by omega), u64w (by omega) (by omega), show (cs b : Int) - (cs a : Int) = ((cs b - cs a : Nat) : Int) by omega, shr_nat _ _ (by omega)]
        have h : cb b / 2 ^ (cs b - cs a) ≠ cb a := by
          by_cases he : cs b = cs a
          · rw [he, Nat.sub_self, Nat.pow_zero, Nat.div_one]
            exact same_ne (by omega) (by omega) (fun e => hab e.symm) he.symm
          · exact pre_ne (by omega) (by omega) (by omega)
        have h2 : ¬ (((cb b / 2 ^ (cs b - cs a) : Nat) : Int)) = (cb a : Int) := fun e => h (by omega)
        rw [bne_iff_ne.2 h2]
end Go.Proofs.YthflimnpiglgbaaDoor.Pure
