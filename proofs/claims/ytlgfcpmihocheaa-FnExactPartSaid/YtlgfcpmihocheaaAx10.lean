/- Written by a program of this session, out of the translation: functions as plain Lean functions, and that the machine's calls answer as they do. Condition: none beyond each theorem's own. -/
import Derived.Test.YtlgfcpmihocheaaAx0
import Derived.Test.YtlgfcpmihocheaaAx9
namespace Go.Proofs.Ytlgfcpmihocheaa.A
open Go.RowKit Go.Proofs.YtlgfcpmihocheaaW.PrintWords Go.Proofs.YtlgfcpmihocheaaW.PrintLast Go.Proofs.YtlgfcpmihocheaaW.PrintMore
attribute [local go_sem] max2_int min2_int max_two min_two max_three min_three max_four min_four   -- for this text's walks alone
set_option linter.unusedVariables false
set_option linter.unusedSimpArgs false

/-! ### laws_markFrameS: function 23 (by hand: the shelf's contract) -/
def laws_markFrameS.l0 : Nat → List S59 → Int → Int → Option (Int × List S59)
 | 0, _, _, _ => none
 | k + 1, x, v, i => if i < (x.length : Int) then ((laws_markByteS.f k (rd_T59 x i).f3 (wrap64 (wrap64 (wrap64 (v + 1) + 1) + 1))).bind fun t => laws_markFrameS.l0 k (x.set i.toNat ⟨v, wrap64 (v + 1), wrap64 (wrap64 (v + 1) + 1), t.2⟩) t.1 (wrap64 (i + 1))) else some (v, x)
def laws_markFrameS.f (k : Nat) (l0 : List S59) (a1 : Int) : Option (Int × List S59) := laws_markFrameS.l0 k l0 a1 0
theorem laws_markFrameS.mono_l : ∀ k y0 y1 y2, LeO (laws_markFrameS.l0 k y0 y1 y2) (laws_markFrameS.l0 (k + 1) y0 y1 y2)
 | 0 => fun _ _ _ r h => by simp [laws_markFrameS.l0] at h
 | k + 1 => fun y0 y1 y2 => by
  have ih := laws_markFrameS.mono_l k
  unfold laws_markFrameS.l0
  exact LeO.ite (LeO.bind (laws_markByteS.mono _ _ _) (fun _ => ih _ _ _)) (LeO.refl _)
theorem laws_markFrameS.mono : ∀ a0 a1 k, LeO (laws_markFrameS.f k a0 a1) (laws_markFrameS.f (k + 1) a0 a1) := fun a0 a1 k => laws_markFrameS.mono_l k _ _ _
theorem laws_markFrameS.meas (n i : Nat) (h : i < n) : n - (intOf (.int .i64 ((i + 1 : Nat) : Int))).toNat < n - (intOf (.int .i64 (i : Int))).toNat := by
 show n - (i + 1) < n - i
 omega
/-- One field's worth of a round. -/
theorem laws_markFrameS.seg1 {W w0 w : World} {base g n cap : Nat} {ok oki : Nat → Prop} {xs : List S59} {i : Nat} {c : List Value} (h : Kd.H k59 59 W base ok (.slice (some ⟨g, 0, none⟩) n cap) xs (i : Int) oki c) (hi : i < n) (j : Nat) (q : Value) (hq : q.oneCell' = true) (hj : j < 4) (hB : Below w0.heap.size w0 W) (hg : w0.heap.size ≤ g) (hK : Kept w W (fun k => ok k)) (hgo : ok g) :
  Kd.H k59 59 (W.setCell ⟨g, i * 4 + j, none⟩ q) base ok (.slice (some ⟨g, 0, none⟩) n cap) xs (i : Int) oki (c.take j ++ [q] ++ c.drop (j + 1)) ∧ Below w0.heap.size w0 (W.setCell ⟨g, i * 4 + j, none⟩ q) ∧ Kept w (W.setCell ⟨g, i * 4 + j, none⟩ q) (fun k => ok k) ∧ W.grownBy (W.setCell ⟨g, i * 4 + j, none⟩ q) (some g) := by
 obtain ⟨h1, h2⟩ := Kd.H_seg h (by omega) (by omega) (seg := [q]) (j := j) (by show j + 1 ≤ 4; omega) (fun u hu => by rw [List.mem_singleton.1 hu]; exact hq)
 exact ⟨h1, below_set hB hg, hK.setCell (.inl hgo) q, h2⟩
set_option maxHeartbeats 8000000 in
set_option maxRecDepth 100000 in
theorem laws_markFrameS.calls (k : Nat) (P0_ : Nat → Prop) (u9000_ : Value) (l0 : List S59) (a1 : Int) (r1 : Int) (r2 : List S59) (w0 w : World) (hB : Below w0.heap.size w0 w) (ho0 : Kd.S k59 59 w w0.heap.size P0_ u9000_ l0) (h : laws_markFrameS.f k l0 a1 = some (r1, r2)) :
  Calls Try.prog 23 #[u9000_, .int .i64 a1] w fun e w' => e = .returned (.int .i64 r1) ∧ Kd.S k59 59 w' w0.heap.size (fun k_ => (P0_ k_ ∨ w.heap.size ≤ k_)) u9000_ r2 ∧ Below w0.heap.size w0 w' ∧ Kept w w' (fun k_ => P0_ k_) := by
 have hu1 := Try.underlying35
 have hu2 := Try.underlying59
 obtain ⟨i0, hinf, _, hzs, _⟩ := info_parts info59
 obtain ⟨A, c, hu⟩ := Kd.S_slice ho0
 obtain ⟨n, hn⟩ : ∃ n, n = l0.length := ⟨_, rfl⟩
 rw [← hn] at hu
 subst hu
 have hmx : n ≤ 9223372036854775807 := Kd.C_max (by have := (Kd.S_reads' ho0).2.2; rw [← hn] at this; exact this)
 obtain ⟨ok, hok⟩ : ∃ ok : Nat → Prop, ok = fun k_ => P0_ k_ ∨ w.heap.size ≤ k_ := ⟨_, rfl⟩
 have hoke : ∀ k_, ok k_ ↔ (P0_ k_ ∨ w.heap.size ≤ k_) := fun k_ => by rw [hok]
 rw [← hok]
 have HS := Aside0.mk (Kd.S_mono ho0 (fun k_ hk => (hoke k_).2 (.inl hk)))
 have HB := Aside0.mk hB
 have HK := Aside0.mk (Kept.refl w (fun k_ => ok k_))
 have HOK := Aside0.mk hoke
 have H' := Aside0.mk h
 have HL := Aside0.mk hn
 have HM := Aside0.mk hmx
 have HI := Aside0.mk hinf
 have HZ := Aside0.mk hzs
 clear hok hoke hB ho0 h hn hmx hinf hzs
 go_enter Try.func23, Try.ntmps23
 go_wp2
 go_loopw [1, 5] (fun v1 v5 wr => ∃ (kq : Nat) (v : Int) (i : Nat) (x : List S59), v1 = .int .i64 v ∧ v5 = .int .i64 (i : Int) ∧ i ≤ n ∧ Aside0 (x.length = n) ∧ Aside0 (laws_markFrameS.l0 kq x v (i : Int) = some (r1, r2)) ∧ Aside0 (Kd.S k59 59 wr w0.heap.size ok (.slice A n c) x) ∧ Aside0 (Below w0.heap.size w0 wr) ∧ Aside0 (Kept w wr (fun k_ => ok k_))) (fun _ v5 _ => n - (intOf v5).toNat)
 case atStart => exact ⟨k, a1, 0, l0, rfl, rfl, Nat.zero_le _, ⟨HL.out.symm⟩, H', HS, HB, HK⟩
 case round =>
  clear HS HB HK H' HL
  obtain ⟨kq, v, i, x, rfl, rfl, hi, HX, HA, HS, HB, HK⟩ := hrel
  cases kq with
  | zero => exact absurd HA.out (by simp [laws_markFrameS.l0])
  | succ kq =>
  have H := HA.out
  simp only [laws_markFrameS.l0] at H
  by_cases hlt : i < n
  ·
   have hxl : i < x.length := by rw [HX.out]; exact hlt
   rw [if_pos (by omega : (i : Int) < (x.length : Int))] at H
   obtain ⟨⟨t1, t2⟩, hm, H⟩ := Option.bind_eq_some_iff.mp H
   have HT := Aside0.mk H
   obtain ⟨g, cap, hv, hgb, hgl, _⟩ := Kd.S_form HS.out (by omega)
   rw [HX.out] at hv
   injection hv with hA _ hc
   subst hA
   subst hc
   have hgo : ok g := (Kd.S_R HS.out).1 g rfl
   obtain ⟨oki, cs, hcl, hM, hcc, hfr, hoki, hH⟩ := Kd.S_elem HS.out z59 (i : Int) (by omega) (by omega)
   rw [Int.toNat_natCast] at hM hcc hfr
   obtain ⟨v3, hcs, hR⟩ := k59_openM hM
   have hrd : rd_T59 x (i : Int) = x.getD i z59 := by unfold rd_T59; rw [Int.toNat_natCast]
   rw [hrd] at hm
   obtain ⟨y, hy⟩ : ∃ y, y = x.getD i z59 := ⟨_, rfl⟩
   rw [← hy] at hm hcs hR
   have hcell := fun j u (hj : cs[j]? = some u) => hcc j u hj
   rw [hcs] at hcell
   have q0 : wr.cell? ⟨g, i * 4, none⟩ = some (.int .i64 y.f0) := hcell 0 _ rfl
   have q1 : wr.cell? ⟨g, i * 4 + 1, none⟩ = some (.int .i64 y.f1) := hcell 1 _ rfl
   have q2 : wr.cell? ⟨g, i * 4 + 2, none⟩ = some (.int .i64 y.f2) := hcell 2 _ rfl
   have q3 : wr.cell? ⟨g, i * 4 + 3, none⟩ = some v3 := hcell 3 _ rfl
   have f0 : wr.frozen? ⟨g, i * 4, none⟩ = false := hfr 0
   have f1 : wr.frozen? ⟨g, i * 4 + 1, none⟩ = false := hfr 1
   have f2 : wr.frozen? ⟨g, i * 4 + 2, none⟩ = false := hfr 2
   obtain ⟨h1, hB1, hK1, hg1⟩ := laws_markFrameS.seg1 hH hlt 0 (.int .i64 v) rfl (by omega) HB.out hgb HK.out hgo
   obtain ⟨h2, hB2, hK2, hg2⟩ := laws_markFrameS.seg1 h1 hlt 1 (.int .i64 (wrap64 (v + 1))) rfl (by omega) hB1 hgb hK1 hgo
   obtain ⟨h3, hB3, hK3, hg3⟩ := laws_markFrameS.seg1 h2 hlt 2 (.int .i64 (wrap64 (wrap64 (v + 1) + 1))) rfl (by omega) hB2 hgb hK2 hgo
   have hR3 := Kd.R_grown (Kd.R_grown (Kd.R_grown hR hg1 (fun k_ hk e_ => (hoki k_ hk).2 (Option.some.inj e_))) hg2 (fun k_ hk e_ => (hoki k_ hk).2 (Option.some.inj e_))) hg3 (fun k_ hk e_ => (hoki k_ hk).2 (Option.some.inj e_))
   rw [hcs] at h3
   obtain ⟨A3, c3, ev⟩ := Kd.R_slice hR3
   obtain ⟨n3, hn3⟩ : ∃ n3, n3 = y.f3.length := ⟨_, rfl⟩
   rw [← hn3] at ev
   subst ev
   have hw1 : wrap64 ((i : Int) + 1) = ((i + 1 : Nat) : Int) := by have := HM.out; unfold wrap64; omega
   rw [hw1, Int.toNat_natCast] at HT
   have HXL := Aside0.mk HX.out
   have hi0 : (0 : Int) ≤ (i : Int) := Int.natCast_nonneg i
   have hi1 : (i : Int) < (n : Int) := Int.ofNat_lt.mpr hlt
   have hlt' : decide ((i : Int) < (n : Int)) = true := decide_eq_true hi1
   have D1 : Aside0 (Kd.H k59 59 (((wr.setCell ⟨g, i * 4, none⟩ (.int .i64 v)).setCell ⟨g, i * 4 + 1, none⟩ (.int .i64 (wrap64 (v + 1)))).setCell ⟨g, i * 4 + 2, none⟩ (.int .i64 (wrap64 (wrap64 (v + 1) + 1)))) w0.heap.size ok (.slice (some ⟨g, 0, none⟩) n c) x (i : Int) oki [.int .i64 v, .int .i64 (wrap64 (v + 1)), .int .i64 (wrap64 (wrap64 (v + 1) + 1)), .slice A3 n3 c3]) := Aside0.mk h3
   have D2 : Aside0 (Below w0.heap.size w0 (((wr.setCell ⟨g, i * 4, none⟩ (.int .i64 v)).setCell ⟨g, i * 4 + 1, none⟩ (.int .i64 (wrap64 (v + 1)))).setCell ⟨g, i * 4 + 2, none⟩ (.int .i64 (wrap64 (wrap64 (v + 1) + 1))))) := Aside0.mk hB3
   have D3 : Aside0 (Kept w (((wr.setCell ⟨g, i * 4, none⟩ (.int .i64 v)).setCell ⟨g, i * 4 + 1, none⟩ (.int .i64 (wrap64 (v + 1)))).setCell ⟨g, i * 4 + 2, none⟩ (.int .i64 (wrap64 (wrap64 (v + 1) + 1)))) (fun k_ => ok k_)) := Aside0.mk hK3
   have D4 : Aside0 (Kd.R (Kd.int .u8) 5 (((wr.setCell ⟨g, i * 4, none⟩ (.int .i64 v)).setCell ⟨g, i * 4 + 1, none⟩ (.int .i64 (wrap64 (v + 1)))).setCell ⟨g, i * 4 + 2, none⟩ (.int .i64 (wrap64 (wrap64 (v + 1) + 1)))) w0.heap.size oki (.slice A3 n3 c3) y.f3) := Aside0.mk hR3
   have D5 := Aside0.mk hm
   have D6 := Aside0.mk hoki
   clear h1 h2 h3 hB1 hB2 hB3 hK1 hK2 hK3 hg1 hg2 hg3 hR hR3 hm hoki hcell hcc hfr hcs hcl hM hH hrd H HA hy hn3 hw1 HX HS HB HK hgl hgo hgb hxl hi
   go_wp2_with (go_at_call 22; (with_reducible refine (laws_markByteS.calls kq oki (.slice A3 n3 c3) y.f3 _ t1 t2 w0 _ D2.out D4.out D5.out).mono ?_); rintro e w4 ⟨rfl, r4, b4, k4⟩; have R4 := Aside0.mk r4; have B4 := Aside0.mk b4; have K4 := Aside0.mk k4; clear r4 b4 k4)
   go_roundw
   case rel =>
    have hw1 : wrap64 ((i : Int) + 1) = ((i + 1 : Nat) : Int) := by have := HM.out; unfold wrap64; omega
    refine ⟨kq, t1, i + 1, _, rfl, congrArg _ hw1, hlt, ?_, HT, ?_, B4, ⟨Kept.then_ D3.out K4.out (fun k_ hk => .inl (D6.out k_ hk).1)⟩⟩
    ·
     exact ⟨by rw [List.length_set]; exact HXL.out⟩
    ·
     have s := Kd.H_back (Kd.H_step (Kd.H_widen D1.out) (fun k_ _ hn_ hlt_ => K4.out.2 k_ hlt_ (fun hq_ => hn_ (.inl hq_)))) (k59_mkM _ _ _ ⟨v, wrap64 (v + 1), wrap64 (wrap64 (v + 1) + 1), t2⟩ R4.out) (fun k_ hk => hk.imp id (fun hk => ⟨(HOK.out k_).2 (.inr (Nat.le_trans D3.out.1 hk)), hk⟩))
     rw [Int.toNat_natCast] at s
     exact ⟨s⟩
   case measure =>
    have hw1 : wrap64 ((i : Int) + 1) = ((i + 1 : Nat) : Int) := by have := HM.out; unfold wrap64; omega
    rw [hw1]
    exact laws_markFrameS.meas n i hlt
  ·
   obtain rfl : i = n := by omega
   have hxl : ¬ ((i : Int) < (x.length : Int)) := by have := HX.out; omega
   rw [if_neg hxl] at H
   simp only [Option.some.injEq, Prod.mk.injEq] at H
   obtain ⟨rfl, rfl⟩ := H
   clear HA hxl
   go_wp2
   go_ret
   exact ⟨rfl, HS.out, HB.out, Kept.then_ (Kept.refl w (fun k_ => P0_ k_)) (Kept.mono (S' := fun k_ => P0_ k_ ∨ w.heap.size ≤ k_) HK.out (fun k_ hk => (HOK.out k_).1 hk)) (fun k_ hk => hk)⟩

end Go.Proofs.Ytlgfcpmihocheaa.A
