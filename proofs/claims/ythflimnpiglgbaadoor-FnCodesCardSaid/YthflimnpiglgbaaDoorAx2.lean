/- Written by a program of this session, out of the translation: functions as plain Lean functions, and that the machine's calls answer as they do. Condition: none beyond each theorem's own. -/
import Derived.Test.YthflimnpiglgbaaDoorAx0
import Derived.Test.YthflimnpiglgbaaDoorAx1
import Derived.Test.YthflimnpiglgbaaDoorLibWrap
namespace Go.Proofs.YthflimnpiglgbaaDoor.A
open Go.RowKit Go.Proofs.YthflimnpiglgbaaDoorW.PrintWords Go.Proofs.YthflimnpiglgbaaDoorW.PrintLast Go.Proofs.YthflimnpiglgbaaDoorW.PrintMore
attribute [local go_sem] max2_int min2_int max_two min_two max_three min_three max_four min_four   -- for this text's walks alone
set_option linter.unusedVariables false
set_option linter.unusedSimpArgs false

-- NOT PRINTED: function 71 (strconv_syntaxError)

-- NOT PRINTED: function 72 (strconv_rangeError)

/-! ### errors_New: function 81 -/
def errors_New.f (a0 : ByteArray) : Option (Option Int) := none
set_option maxHeartbeats 8000000 in
set_option maxRecDepth 100000 in
theorem errors_New.calls (a0 : ByteArray) (r : Option Int) (w : World) (h : errors_New.f a0 = some r) :
  Calls Tryd.prog 81 #[.string a0] w fun e w' => e = .returned (errW r) ∧ Below w.heap.size w w' := by
 have hu102 := Tryd.underlying102
 have hu66 := Tryd.underlying66
 have HB := Aside0.mk (Below.refl w.heap.size w)
 have H : (none) = some r := h
 clear h
 exact absurd H (by simp)

-- NOT PRINTED: function 94 (strconv_small)

-- NOT PRINTED: function 98 (strconv_log10Pow2)

-- NOT PRINTED: function 99 (bits_Len64)

-- NOT PRINTED: function 100 (strconv_bool2_int)

-- NOT PRINTED: function 95 (strconv_numDigits)

-- NOT PRINTED: function 96 (strconv_formatBase10)

-- NOT PRINTED: function 101 (strconv_isPowerOfTwo)

-- NOT PRINTED: function 103 (bits_TrailingZeros32)

-- NOT PRINTED: function 104 (bits_TrailingZeros64)

-- NOT PRINTED: function 102 (bits_TrailingZeros)

-- NOT PRINTED: function 97 (strconv_formatBits)

-- NOT PRINTED: function 93 (strconv_FormatInt)

-- NOT PRINTED: function 90 (strconv_Itoa_90)

-- NOT PRINTED: function 82 (strconv_Itoa_82)

-- NOT PRINTED: function 73 (strconv_baseError)

-- NOT PRINTED: function 74 (strconv_bitSizeError)

-- NOT PRINTED: function 66 (strconv_toError)

-- NOT PRINTED: function 58 (strconv_Atoi_58)

-- NOT PRINTED: function 41 (impl_codesOf)

/-! ### impl_CodeLen: function 15 (by hand: the shelf's contract) -/
def impl_CodeLen.f (a0 : Int) : Option (Int) := some (Go.Proofs.YthflimnpiglgbaaDoor.LibWrap.codeLenF a0)
theorem impl_CodeLen.calls (a0 : Int) (r : Int) (w : World) (ht : TB w) (A : impl_CodeLen.f a0 = some r) : Calls Tryd.prog 15 #[.int .i64 a0] w fun e w' => e = .returned (.int .i64 r) ∧ Below w.heap.size w w' := by
 obtain rfl := Option.some.inj A
 exact Go.Proofs.YthflimnpiglgbaaDoor.LibWrap.codeLen_calls a0 w ht

/-! ### laws_FnExactCodeLen: function 3 -/
def laws_FnExactCodeLen.f (a0 : Int) : Option (Bool) := (spec_CodeLen.f a0).bind fun t107 => ((impl_CodeLen.f a0).bind fun t108 => (if t108 = t107 then (some true) else (some false)))
set_option maxHeartbeats 8000000 in
set_option maxRecDepth 100000 in
theorem laws_FnExactCodeLen.calls (a0 : Int) (r : Bool) (w : World) (ht : TB w) (h : laws_FnExactCodeLen.f a0 = some r) :
  Calls Tryd.prog 3 #[.int .i64 a0] w fun e w' => e = .returned (.bool r) ∧ Below w.heap.size w w' := by
 have HB := Aside0.mk (Below.refl w.heap.size w)
 have H : ((spec_CodeLen.f a0).bind fun t107 => ((impl_CodeLen.f a0).bind fun t108 => (if t108 = t107 then (some true) else (some false)))) = some r := h
 clear h
 replace H := Option.bind_eq_some_iff.mp H
 obtain ⟨t107, A20, H⟩ := H
 replace H : ((impl_CodeLen.f a0).bind fun t108 => (if t108 = t107 then (some true) else (some false))) = some r := H
 have A2 := Aside0.mk A20
 clear A20
 replace H := Option.bind_eq_some_iff.mp H
 obtain ⟨t108, A30, H⟩ := H
 replace H : (if t108 = t107 then (some true) else (some false)) = some r := H
 have A3 := Aside0.mk A30
 clear A30
 by_cases c4 : t108 = t107
 ·
  rw [if_pos c4] at H
  have c4b0 : (t108 == t107) = true := beq_iff_eq.mpr c4
  have c4b1 : (t108 != t107) = false := bne_eq_false_iff_eq.mpr c4
  clear c4
  obtain rfl := Option.some.inj H
  go_enter Tryd.func3, Tryd.ntmps3
  go_wp2_with (first | ((with_reducible refine gate_callee (f := 14) rfl ?_); refine goesL_ (some 6) rfl rfl Tryd.func14 (by kernel_rfl) rfl #[.int .i64 a0] rfl (by (try simp only [List.map_toArray, List.map_cons, List.map_nil]); first | done | rfl | (simp only [List.length_drop, List.length_take]; rfl)) ?_; (with_reducible refine (spec_CodeLen.calls a0 t107 _ A2.out).mono ?_); rintro e w5 ⟨rfl, hb⟩; refine ⟨_, rfl, ?_⟩; have n0_ := Aside0.mk (below_step (by repeat (first | (with_reducible first | exact HB.out | apply below_alloc | apply pw_below_drewN | apply below_drew1) | exact HB.out)) hb); clear HB; have HB := n0_; clear n0_; (try clear hb); (try clear hb2); (try clear hk); (try clear hi)) | ((with_reducible refine gate_callee (f := 15) rfl ?_); refine goesL_ (some 8) rfl rfl Tryd.func15 (by kernel_rfl) rfl #[.int .i64 a0] rfl (by (try simp only [List.map_toArray, List.map_cons, List.map_nil]); first | done | rfl | (simp only [List.length_drop, List.length_take]; rfl)) ?_; (with_reducible refine (impl_CodeLen.calls a0 t108 _ ?side1 A3.out).mono ?_); (case side1 => first | exact ht | (refine tb_below ht ?_; repeat (first | (with_reducible first | exact HB.out | apply below_alloc | apply pw_below_drewN | apply below_drew1) | exact HB.out))); rintro e w6 ⟨rfl, hb⟩; refine ⟨_, rfl, ?_⟩; have n0_ := Aside0.mk (below_step (by repeat (first | (with_reducible first | exact HB.out | apply below_alloc | apply pw_below_drewN | apply below_drew1) | exact HB.out)) hb); clear HB; have HB := n0_; clear n0_; (try clear hb); (try clear hb2); (try clear hk); (try clear hi)))
  go_ret
  exact ⟨by first | rfl | (simp [errW_none, errW_some] <;> rfl) | (simp [*, errW_none, errW_some] <;> rfl), by repeat (first | (with_reducible first | exact HB.out | apply below_alloc | apply pw_below_drewN | apply below_drew1) | exact HB.out)⟩
 ·
  rw [if_neg c4] at H
  have c4b0 : (t108 == t107) = false := beq_eq_false_iff_ne.mpr c4
  have c4b1 : (t108 != t107) = true := bne_iff_ne.mpr c4
  obtain rfl := Option.some.inj H
  go_enter Tryd.func3, Tryd.ntmps3
  go_wp2_with (first | ((with_reducible refine gate_callee (f := 14) rfl ?_); refine goesL_ (some 6) rfl rfl Tryd.func14 (by kernel_rfl) rfl #[.int .i64 a0] rfl (by (try simp only [List.map_toArray, List.map_cons, List.map_nil]); first | done | rfl | (simp only [List.length_drop, List.length_take]; rfl)) ?_; (with_reducible refine (spec_CodeLen.calls a0 t107 _ A2.out).mono ?_); rintro e w7 ⟨rfl, hb⟩; refine ⟨_, rfl, ?_⟩; have n0_ := Aside0.mk (below_step (by repeat (first | (with_reducible first | exact HB.out | apply below_alloc | apply pw_below_drewN | apply below_drew1) | exact HB.out)) hb); clear HB; have HB := n0_; clear n0_; (try clear hb); (try clear hb2); (try clear hk); (try clear hi)) | ((with_reducible refine gate_callee (f := 15) rfl ?_); refine goesL_ (some 8) rfl rfl Tryd.func15 (by kernel_rfl) rfl #[.int .i64 a0] rfl (by (try simp only [List.map_toArray, List.map_cons, List.map_nil]); first | done | rfl | (simp only [List.length_drop, List.length_take]; rfl)) ?_; (with_reducible refine (impl_CodeLen.calls a0 t108 _ ?side1 A3.out).mono ?_); (case side1 => first | exact ht | (refine tb_below ht ?_; repeat (first | (with_reducible first | exact HB.out | apply below_alloc | apply pw_below_drewN | apply below_drew1) | exact HB.out))); rintro e w8 ⟨rfl, hb⟩; refine ⟨_, rfl, ?_⟩; have n0_ := Aside0.mk (below_step (by repeat (first | (with_reducible first | exact HB.out | apply below_alloc | apply pw_below_drewN | apply below_drew1) | exact HB.out)) hb); clear HB; have HB := n0_; clear n0_; (try clear hb); (try clear hb2); (try clear hk); (try clear hi)))
  go_ret
  exact ⟨by first | rfl | (simp [errW_none, errW_some] <;> rfl) | (simp [*, errW_none, errW_some] <;> rfl), by repeat (first | (with_reducible first | exact HB.out | apply below_alloc | apply pw_below_drewN | apply below_drew1) | exact HB.out)⟩

/-- THE ONE PURE STATEMENT of laws_FnExactCodeLen: yours. -/
def laws_FnExactCodeLen.Pure : Prop := ∀ (a0 : Int), (Lit.int .i64 a0).wf = true → laws_FnExactCodeLen.f a0 = some true
theorem laws_FnExactCodeLen.walk (P : laws_FnExactCodeLen.Pure) (a0 : Int) (w : World) (w0 : (Lit.int .i64 a0).wf = true) (ht : TB w) :
  Calls Tryd.prog 3 #[.int .i64 a0] w fun e w' => e = .returned (.bool true) ∧ Below w.heap.size w w' := by
 have h := P a0 w0
 refine (laws_FnExactCodeLen.calls a0 true w ht h).mono ?_
 rintro e w' ⟨rfl, hd⟩
 exact ⟨rfl, hd⟩

end Go.Proofs.YthflimnpiglgbaaDoor.A
