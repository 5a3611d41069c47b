/- Written by a program of this session, out of the translation: functions as plain Lean functions, and that the machine's calls answer as they do. Condition: none beyond each theorem's own. -/
import Derived.Test.YtlgfcpmihocheaaAx0
import Derived.Test.YtlgfcpmihocheaaAx4
namespace Go.Proofs.Ytlgfcpmihocheaa.A
open Go.RowKit Go.Proofs.YtlgfcpmihocheaaW.PrintWords Go.Proofs.YtlgfcpmihocheaaW.PrintLast Go.Proofs.YtlgfcpmihocheaaW.PrintMore
attribute [local go_sem] max2_int min2_int max_two min_two max_three min_three max_four min_four   -- for this text's walks alone
set_option linter.unusedVariables false
set_option linter.unusedSimpArgs false

/-! ### impl_Part: function 19 (by hand: the shelf's contract) -/
section
open Go.Shelf
attribute [local go_sem] Oper.semAt_some
abbrev chunkV (A : Option Addr) (len most k : Nat) : Value := .slice (A.map (·.add (k * most * 1))) (min most (len - k * most)) (min most (len - k * most))
def chunkKp (Bs Bn : Nat) (W W' : World) : Prop := (∀ v, W.cell? ⟨Bs, 0, none⟩ = some v → W'.cell? ⟨Bs, 0, none⟩ = some v) ∧ (∀ v, W.cell? ⟨Bn, 0, none⟩ = some v → W'.cell? ⟨Bn, 0, none⟩ = some v)
abbrev ChunkIx (len most : Nat) := { k : Nat // k * most < len }
def chunkIs (len most K : Nat) (pre : List (ChunkIx len most)) : Prop := pre.map (·.1) = List.range K

set_option maxRecDepth 100000 in
set_option maxHeartbeats 4000000 in
theorem chunk1_in (F : Fence) (n : Nat) (h88 : F.fn 88) (hro : F.round = none) (hn : 1 ≤ n) (l Bs Bn : Nat) (A : Option Addr) (len cap most : Nat) (hlc : len ≤ cap) (hlen : len ≤ 140737488355328) (hm : 1 ≤ most) (hm2 : most ≤ 1000) (J Jx : List (ChunkIx len most) → World → Prop)
  (W : World) (hA : 0 < len → ∃ ad, A = some ad) (hJab : AbidesFrom W.heap.size J)
  (hY : ∀ pre (x : ChunkIx len most) W, J pre W → pre.length < len → YieldAt F (n - 1) Try.prog l #[chunkV A len most x.1] W fun e W' =>
   (e = .returned (.bool true) ∧ J (pre ++ [x]) W' ∧ chunkKp Bs Bn W W') ∨ (e = .returned (.bool false) ∧ Jx (pre ++ [x]) W'))
  (hBs : W.cell? ⟨Bs, 0, none⟩ = some (.slice A len cap)) (hBn : W.cell? ⟨Bn, 0, none⟩ = some (.int .i64 most)) (h0 : J [] W) :
  CallsIn F n Try.prog 88 #[.func (.yield l) #[] #[], .pointer (some ⟨Bs, 0, none⟩), .pointer (some ⟨Bn, 0, none⟩)] W fun e W' => (∃ v, e = .returned v) ∧
   ((∃ ys, (∃ K, chunkIs len most K ys ∧ len ≤ K * most ∧ (K = 0 ∨ (K - 1) * most < len)) ∧ J ys W') ∨ (∃ pre, True ∧ Jx pre W')) := by
 refine callsIn_of_wp Try.func88 rfl h88 ?_ hro
 simp only [Try.ntmps88, List.size_toArray, List.length_cons, List.length_nil, Nat.reduceAdd, Nat.reduceSub, Array.replicate_succ, Array.replicate_zero, List.push_toArray, List.append_toArray, List.nil_append, List.cons_append]
 gi_wp2
 gi_loopw [4] (fun i wr => ∃ (k : Nat) (ys : List (ChunkIx len most)), i = .int .i64 ((k * most : Nat) : Int) ∧ chunkIs len most k ys ∧ (k = 0 ∨ (k - 1) * most < len) ∧ J ys wr ∧ wr.cell? ⟨Bs, 0, none⟩ = some (.slice A len cap) ∧ wr.cell? ⟨Bn, 0, none⟩ = some (.int .i64 most))
  (fun i _ => len - (intOf i).toNat)
 case atStart => exact ⟨0, [], by simp, rfl, .inl rfl, h0, hBs, hBn⟩
 case round =>
  obtain ⟨k, ys, rfl, hys, hk, hJs, hs, hnn⟩ := hrel
  have hu := Try.underlying22
  have hmix : Try.prog.follows .mixedOrders = true := by kernel_rfl
  by_cases hlt : k * most < len
  ·
   obtain ⟨ad, rfl⟩ := hA (by omega)
   have hlen' : ys.length = k := by have := congrArg List.length hys; simpa using this
   have hkl : k ≤ k * most := Nat.le_mul_of_pos_right k hm
   obtain ⟨x, hx⟩ : ∃ x : ChunkIx len most, x.1 = k := ⟨⟨k, hlt⟩, rfl⟩
   have hJd : J ys wr.drew := hJab ys wr _ none hJs ⟨rfl, rfl, rfl, Nat.le_refl _, fun _ _ _ => rfl⟩ (by simp)
   obtain ⟨fn, tmps, assign, body, hy, hR⟩ := hY ys x wr.drew hJd (by omega)
   rw [hx] at hy
   simp only [chunkV] at hy
   have HX := Aside0.mk hx
   have HK := Aside0.mk hk
   have HY := Aside0.mk hys
   have HL := Aside0.mk hlt
   have HXY : Aside0 (chunkIs len most (k + 1) (ys ++ [x])) := ⟨by unfold chunkIs at hys ⊢; rw [List.map_append, hys, List.range_succ]; simp [hx]⟩
   obtain ⟨g, hg⟩ : ∃ g, g = k * most := ⟨_, rfl⟩
   have hgi : ((k * most : Nat) : Int) = (g : Int) := by rw [hg]
   rw [hgi]
   rw [← hg] at hy hlt
   have HG := Aside0.mk hg
   clear hg hgi hkl hx hk hys hlen' hA
   obtain ⟨m, hmm⟩ : ∃ m, m = min most (len - g) := ⟨_, rfl⟩
   rw [← hmm] at hy
   have hmif : (if len - g < most then ((len - g : Nat) : Int) else (most : Int)) = (m : Int) := by rw [hmm]; split <;> omega
   have hgm : g + m ≤ len := by omega
   have hm0 : 0 < m := by omega
   simp only [Option.map_some, Nat.mul_one] at hy
   have HM := Aside0.mk hmm
   clear hmm
   gi_wp2
   gi_region_o
   all_goals gi_wp2
   all_goals
    refine hR.mono ?_
    rintro e W3 (⟨rfl, hJ3, hk3⟩ | ⟨rfl, hJx3⟩)
    ·
     have hs3 : W3.cell? ⟨Bs, 0, none⟩ = _ := hk3.1 _ hs
     have hn3 : W3.cell? ⟨Bn, 0, none⟩ = _ := hk3.2 _ hnn
     gi_wp2
     go_roundw
     case rel => exact ⟨k + 1, ys ++ [x], by rw [HG.out]; simp [Nat.add_mul], HXY.out, .inr HL.out, hJ3, hs3, hn3⟩
     case measure => simp [intOf]; omega
    ·
     gi_wp2
     refine bodyPost_ret (results_none rfl _ _ _) rfl ?_
     exact ⟨⟨_, rfl⟩, .inr ⟨_, trivial, hJx3⟩⟩
  ·
   have hge : len ≤ k * most := by omega
   obtain ⟨g, hg⟩ : ∃ g, g = k * most := ⟨_, rfl⟩
   have hgi : ((k * most : Nat) : Int) = (g : Int) := by rw [hg]
   rw [hgi]
   rw [← hg] at hlt
   have HG := Aside0.mk hg
   have HGE := Aside0.mk hge
   clear hg hgi hge
   gi_wp2
   go_end0
   exact ⟨⟨_, rfl⟩, .inl ⟨_, ⟨k, hys, HGE.out, hk⟩, hJs⟩⟩


theorem part_append_in {F : Fence} {nF : Nat} {P : Program} {ops : Array Oper} {rest : List Oper} {o : Oper} {a : Act} {Q : Exit → Act → World → Prop} {α : Type} (d : Kd α) {w0 W : World} (base : Nat) (hgd : o.guard = none) (s x : Operand) (t e : TypeId) (z : Value) (bytes : Nat)
  (ho : o.op = .call { callee := .builtin .append, args := #[s, x], argTypes := #[t, t] })
  (ht : P.underlying t = some (.slice e)) (hinfo : (P.info? e).map (fun i => (i.zero, i.size, i.bytes)) = some (some z, d.sz, bytes)) (hz : z.cells.size = d.sz) (hs0 : 0 < d.sz) (hb0 : 0 < bytes)
  (v : Value) (xs : List α) (p : α) (cs : List Value) (ok okp : Nat → Prop) (hs : a.eval s = v) (hx : a.eval x = .slice (some ⟨W.heap.size, 0, none⟩) 1 1) (hp : d.M W base okp p cs) (hokp : ∀ k, okp k → ok k ∧ some k ≠ v.ownBlock) (hfresh : ∀ k, W.heap.size ≤ k → ok k)
  (HO : Kd.S d e W base (fun k => ok k ∧ ¬ okp k) v xs) (HB : Below base w0 W) (hbase : base ≤ W.heap.size) (hl : (xs.length + 1) * bytes ≤ 140737488355328)
  (h : ∀ v1 w1, Kd.S d e w1 base ok v1 (xs ++ [p]) → Below base w0 w1 → W.grownBy w1 v.ownBlock → wpListIn F nF P ops Q rest (a.put o.dst v1) w1) :
  wpListIn F nF P ops Q (o :: rest) a (W.alloc (.cells cs.toArray e)) := by
 obtain ⟨f, hf, hR⟩ := Kd.S_tag HO xs.length okp (fun _ hk h2 => h2.2 hk)
 have hR2 := Kd.R_mono hR (fun _ hk => hk.1)
 obtain ⟨h0, inner, hown, hr⟩ := hR2
 obtain ⟨i0, hi, hzz⟩ := Option.map_eq_some_iff.1 hinfo
 simp only [Prod.mk.injEq] at hzz
 obtain ⟨hz0, hz1, hz2⟩ := hzz
 have hlen : xs.length + 1 ≤ 140737488355328 := Nat.le_trans (Nat.le_mul_of_pos_right _ hb0) hl
 have hown' : W.ownsRow base e d.sz v xs.length inner := by rw [List.length_zipIdx] at hown; exact hown
 refine wpListIn_append_own_at (W.alloc (.cells cs.toArray e)) hgd s x t ho base e i0 z d.sz bytes ht hi hz0 hz1 hz2 hz hs0 v xs.length inner hs (hown'.alloc _) ⟨W.heap.size, 0, none⟩ 1 1 cs hx (by rw [d.K_len (d.K_of_M hp)]; simp)
  (by simpa using World.news_of_block (cs := cs.toArray) (t := e) (fr := (0, 0)) (heap_alloc_new W (.cells cs.toArray e))) (d.K_one (d.K_of_M hp)) (by simp only [maxLen]; omega) hl (by simp; omega) ?_
 intro v1 w1 hown1 hg _ hat
 have hg2 := World.grownBy.trans (World.grownBy_alloc W _ _) hg
 refine h v1 w1 ⟨f, ?_⟩ ((HB.alloc hbase _).grown hg (by simp; omega) (own_base hown')) hg2
 rw [Kd.zip_snoc]
 refine Kd.R_appended (d := Kd.tag f d) (p := (p, xs.length)) (okp := okp) (cs := cs) h0 hr (d.M_mono (fun k hk => ⟨hk, hf k hk⟩) hp) hokp hfresh (by rw [List.length_zipIdx]; exact hown1) hg2 ?_
 rcases hat with hat | hat
 ·
  exact .inl hat
 ·
  exact .inr ⟨_, hat, by simp⟩

/-- One element: what its cells hold; the row behind a store into its second cell, and behind a row put into its fourth. -/
theorem part_el {W : World} {base g n cap : Nat} {ok : Nat → Prop} {acc : List S59} (h : Kd.S k59 59 W base ok (.slice (some ⟨g, 0, none⟩) n cap) acc) (i : Nat) (hi : i < n) :
  ∃ A3 c3, W.cell? ⟨g, i * 4 + 1, none⟩ = some (.int .i64 (acc.getD i z59).f1) ∧ W.cell? ⟨g, i * 4 + 3, none⟩ = some (.slice A3 (acc.getD i z59).f3.length c3) ∧
   W.frozen? ⟨g, i * 4 + 1, none⟩ = false ∧ W.frozen? ⟨g, i * 4 + 3, none⟩ = false ∧ ok g ∧ base ≤ g ∧ g < W.heap.size ∧
   (∀ q : Int, Kd.S k59 59 (W.setCell ⟨g, i * 4 + 1, none⟩ (.int .i64 q)) base ok (.slice (some ⟨g, 0, none⟩) n cap) (acc.set i ⟨(acc.getD i z59).f0, q, (acc.getD i z59).f2, (acc.getD i z59).f3⟩)) ∧
   (∀ (w2 : World) (p : List Int) (v0 : Value), Below W.heap.size W w2 → Kd.R (Kd.int .u8) 5 w2 W.heap.size (fun _ => True) v0 p → (∀ k, W.heap.size ≤ k → ok k) →
    Kd.S k59 59 (w2.setCell ⟨g, i * 4 + 3, none⟩ v0) base ok (.slice (some ⟨g, 0, none⟩) n cap) (acc.set i ⟨(acc.getD i z59).f0, (acc.getD i z59).f1, (acc.getD i z59).f2, p⟩)) := by
 have hlen : n = acc.length := (Kd.S_reads' h).1
 obtain ⟨g', cap', hv, hgb, hgl, _⟩ := Kd.S_form h (by omega)
 injection hv with hA _ hc
 injection hA with hA
 injection hA with hA
 subst hA
 subst hc
 have hgo : ok g := (Kd.S_R h).1 g rfl
 obtain ⟨oki, cs, hcl, hM, hcc, hfr, hoki, hH⟩ := Kd.S_elem h z59 (i : Int) (by omega) (by omega)
 rw [Int.toNat_natCast] at hM hcc hfr
 obtain ⟨v3, hcs, hR⟩ := k59_openM hM
 obtain ⟨A3, c3, ev⟩ := Kd.R_slice hR
 have hcell := fun j u (hj : cs[j]? = some u) => hcc j u hj
 rw [hcs] at hcell
 refine ⟨A3, c3, hcell 1 _ rfl, by rw [← ev]; exact hcell 3 _ rfl, hfr 1, hfr 3, hgo, hgb, hgl, fun q => ?_, fun w2 p v0 hb hr hfresh => ?_⟩
 ·
  obtain ⟨h1, hg1⟩ := Kd.H_seg hH (by omega) (by omega) (seg := [.int .i64 q]) (j := 1) (by show 1 + 1 ≤ 4; omega) (fun u hu => by rw [List.mem_singleton.1 hu]; rfl)
  have hR1 := Kd.R_grown hR hg1 (fun k_ hk e_ => (hoki k_ hk).2 (Option.some.inj e_))
  rw [hcs] at h1
  have s := Kd.H_back h1 (k59_mkM _ _ _ ⟨(acc.getD i z59).f0, q, (acc.getD i z59).f2, (acc.getD i z59).f3⟩ hR1) (fun k_ hk => hk)
  rw [Int.toNat_natCast] at s
  exact s
 ·
  have hH2 := Kd.H_below (Kd.H_widen hH) hb
  obtain ⟨hv1, hv2⟩ := Kd.R_val hr
  obtain ⟨h1, hg1⟩ := Kd.H_seg hH2 (by omega) (by omega) (seg := [v0]) (j := 3) (by show 3 + 1 ≤ 4; omega) (fun u hu => by rw [List.mem_singleton.1 hu]; exact hv2)
  have hR0 := Kd.R_lower (Kd.R_bound hr) (show base ≤ W.heap.size by omega)
  have hR1 := Kd.R_grown hR0 hg1 (fun k_ hk e_ => by have := Option.some.inj e_; have := hk.2.1; omega)
  rw [hcs] at h1
  have s := Kd.H_back h1 (k59_mkM _ _ _ ⟨(acc.getD i z59).f0, (acc.getD i z59).f1, (acc.getD i z59).f2, p⟩ hR1) (fun k_ hk => .inr ⟨hfresh k_ hk.2.1, hk.2.1⟩)
  rw [Int.toNat_natCast] at s
  exact s

theorem part_lit {W : World} (base : Nat) (ok : Nat → Prop) (hbase : base ≤ W.heap.size) (hfresh : ok W.heap.size) (x : S59) (hx : x.f3 = []) :
  Kd.S k59 59 (W.alloc (.cells #[.int .i64 x.f0, .int .i64 x.f1, .int .i64 x.f2, .slice none 0 0] 59)) base ok (.slice (some ⟨W.heap.size, 0, none⟩) 1 1) [x] := by
 have hM : k59.M (W.alloc (.cells #[.int .i64 x.f0, .int .i64 x.f1, .int .i64 x.f2, .slice none 0 0] 59)) base (fun _ => False) x [.int .i64 x.f0, .int .i64 x.f1, .int .i64 x.f2, .slice none 0 0] :=
  k59_mkM _ _ _ x (by rw [hx]; exact Kd.R_nil _ _ _ _ _)
 have h2 := World.ownsRow_lit (base := base) (e := 59) (size := 4) W #[.int .i64 x.f0, .int .i64 x.f1, .int .i64 x.f2, .slice none 0 0] 1 hbase (by simp [maxLen]) (by simp)
 refine ⟨fun _ => 0, fun k hk => ?_, [.int .i64 x.f0, .int .i64 x.f1, .int .i64 x.f2, .slice none 0 0], h2, ⟨by simp; rfl, fun j p hj => ?_⟩⟩
 ·
  have : W.heap.size = k := by simpa [Value.ownBlock] using hk
  subst this
  exact hfresh
 ·
  cases j with
  | zero =>
   simp at hj
   subst hj
   exact Kd.M_mono k59 (fun k hk => hk.elim) hM
  | succ j => simp at hj

set_option maxHeartbeats 1000000 in
theorem chunk_in (F : Fence) (n : Nat) (h58 : F.fn 58) (hro : F.round = none) (A : Option Addr) (len cap most : Nat) (hm : 1 ≤ most) (w : World) :
  CallsIn F n Try.prog 58 #[.slice A len cap, .int .i64 (most : Int)] w fun e w' => e = .returned (.func (.func 88) #[] #[.pointer (some ⟨w.heap.size, 0, none⟩), .pointer (some ⟨w.heap.size + 1, 0, none⟩)]) ∧ w' = (w.alloc (.cells #[.slice A len cap] 22)).alloc (.cells #[.int .i64 (most : Int)] 3) := by
 refine callsIn_of_wp Try.func58 rfl h58 ?_ hro
 simp only [Try.ntmps58, List.size_toArray, List.length_cons, List.length_nil, Nat.reduceAdd, Nat.reduceSub, Array.replicate_succ, Array.replicate_zero, List.push_toArray, List.append_toArray, List.nil_append, List.cons_append]
 gi_wp2
 go_ret
 exact ⟨rfl, rfl⟩
theorem chunk_stops (F : Fence) (n : Nat) (h88 : F.fn 88) (hro : F.round = none) (hn : 1 ≤ n) (Bs Bn : Nat) (A : Option Addr) (len cap most : Nat) (hlc : len ≤ cap) (hlen : len ≤ 140737488355328) (hm : 1 ≤ most) (hm2 : most ≤ 1000) (hA : 0 < len → ∃ ad, A = some ad) (w : World)
  (hs : Bs < w.heap.size) (hb : Bn < w.heap.size) (hBs : w.cell? ⟨Bs, 0, none⟩ = some (.slice A len cap)) (hBn : w.cell? ⟨Bn, 0, none⟩ = some (.int .i64 most)) :
  SeqStopsK F n Try.prog 88 #[.pointer (some ⟨Bs, 0, none⟩), .pointer (some ⟨Bn, 0, none⟩)] (fun x : ChunkIx len most => #[chunkV A len most x.1]) (chunkKp Bs Bn)
   (fun ys => ∃ K, chunkIs len most K ys ∧ len ≤ K * most ∧ (K = 0 ∨ (K - 1) * most < len)) (fun _ => True) len w := fun l J Jx W hW hJ _ hY h0 =>
 chunk1_in F n h88 hro hn l Bs Bn A len cap most hlc hlen hm hm2 J Jx W hA hJ hY ((hW.cell (p := ⟨Bs, 0, none⟩) hs).trans hBs) ((hW.cell (p := ⟨Bn, 0, none⟩) hb).trans hBn) h0

def impl_Part.fr (s : Int) (acc : List S59) (p : List Int) : List S59 :=
 if 0 < (acc.getD (acc.length - 1) z59).f3.length then acc ++ [⟨9, 0, s, p⟩] else acc.set (acc.length - 1) ⟨(acc.getD (acc.length - 1) z59).f0, (acc.getD (acc.length - 1) z59).f1, (acc.getD (acc.length - 1) z59).f2, p⟩
def impl_Part.ch (l : List Int) (m k : Nat) : List Int := (l.take (k * m + min m (l.length - k * m))).drop (k * m)
def impl_Part.fl (acc : List S59) (q : Int) : List S59 := acc.set (acc.length - 1) ⟨(acc.getD (acc.length - 1) z59).f0, q, (acc.getD (acc.length - 1) z59).f2, (acc.getD (acc.length - 1) z59).f3⟩
theorem impl_Part.fr_len (s : Int) (acc : List S59) (p : List Int) (h : 0 < acc.length) : 0 < (impl_Part.fr s acc p).length ∧ (impl_Part.fr s acc p).length ≤ acc.length + 1 := by
 unfold impl_Part.fr
 split <;> simp <;> omega

/-- What the loop's boxes hold between two rounds. -/
abbrev impl_Part.ok (w : World) (k : Nat) : Prop := k ≠ w.heap.size ∧ k ≠ w.heap.size + 1 + 1 ∧ k ≠ w.heap.size + 1 + 1 + 1 ∧ k ≠ w.heap.size + 1 + 1 + 1 + 1
def impl_Part.PIc (w W : World) (a0 : Int) (acc : List S59) (g cap m : Nat) : Prop := acc.length = m + 1 ∧ W.cell? ⟨w.heap.size + 1 + 1, 0, none⟩ = some (.slice (some ⟨g, 0, none⟩) (m + 1) cap) ∧ W.frozen? ⟨w.heap.size + 1 + 1, 0, none⟩ = false ∧
 W.cell? ⟨w.heap.size, 0, none⟩ = some (.int .i64 a0) ∧ Kd.S k59 59 W w.heap.size (impl_Part.ok w) (.slice (some ⟨g, 0, none⟩) (m + 1) cap) acc ∧ Below w.heap.size w W ∧ w.heap.size + 5 ≤ W.heap.size
def impl_Part.PI (w : World) (a0 : Int) (acc : List S59) (W : World) : Prop := ∃ g cap m, impl_Part.PIc w W a0 acc g cap m
def impl_Part.Stp (w W W' : World) : Prop := KeepsFrom (w.heap.size + 5) W W' ∧ chunkKp (w.heap.size + 1 + 1 + 1) (w.heap.size + 1 + 1 + 1 + 1) W W'
theorem impl_Part.Stp.trans {w A B C : World} (h : impl_Part.Stp w A B) (k : impl_Part.Stp w B C) : impl_Part.Stp w A C := ⟨h.1.trans k.1, fun v e => k.2.1 v (h.2.1 v e), fun v e => k.2.2 v (h.2.2 v e)⟩
theorem impl_Part.stp_set {w W : World} {g j : Nat} (hg : impl_Part.ok w g) (v : Value) : impl_Part.Stp w W (W.setCell ⟨g, j, none⟩ v) :=
 ⟨(KeepsOthers.setCell _ _ _).from _, fun u e => by rw [World.cell?_setCell_other _ _ _ _ (fun h => hg.2.2.1 (congrArg Addr.block h))]; exact e, fun u e => by rw [World.cell?_setCell_other _ _ _ _ (fun h => hg.2.2.2 (congrArg Addr.block h))]; exact e⟩
theorem impl_Part.stp_gl {w W : World} (v : Value) : impl_Part.Stp w W (W.setCell ⟨w.heap.size + 1 + 1, 0, none⟩ v) :=
 ⟨(KeepsOthers.setCell _ _ _).from _, fun u e => by rw [World.cell?_setCell_other _ _ _ _ (fun h => by have := congrArg Addr.block h; simp at this)]; exact e, fun u e => by rw [World.cell?_setCell_other _ _ _ _ (fun h => by have := congrArg Addr.block h; simp at this)]; exact e⟩
theorem impl_Part.stp_below {w W W' : World} (hs : w.heap.size + 5 ≤ W.heap.size) (h : Below W.heap.size W W') : impl_Part.Stp w W W' :=
 ⟨⟨h.size, fun k o _ hk _ => (h.block k (Array.getElem?_eq_some_iff.1 hk).1).trans hk⟩, fun u e => (h.cell (p := ⟨w.heap.size + 1 + 1 + 1, 0, none⟩) (by show w.heap.size + 1 + 1 + 1 < _; omega)).trans e, fun u e => (h.cell (p := ⟨w.heap.size + 1 + 1 + 1 + 1, 0, none⟩) (by show w.heap.size + 1 + 1 + 1 + 1 < _; omega)).trans e⟩
theorem impl_Part.stp_grown {w W W' : World} {g : Nat} (hs : w.heap.size + 5 ≤ W.heap.size) (hg : W.grownBy W' (some g)) (ho : impl_Part.ok w g) (hc : ∃ cells, W.heap[g]? = some (.cells cells 59 (0, 0))) : impl_Part.Stp w W W' :=
 ⟨(KeepsOthers.of_grownBy hg (fun j o e h => by cases e; obtain ⟨c, hc⟩ := hc; rw [hc] at h; cases h; rfl)).from _,
  fun u e => (World.cell?_of_block (a := ⟨w.heap.size + 1 + 1 + 1, 0, none⟩) (hg.block _ (by show w.heap.size + 1 + 1 + 1 < _; omega) (fun h => ho.2.2.1 (Option.some.inj h).symm))).trans e,
  fun u e => (World.cell?_of_block (a := ⟨w.heap.size + 1 + 1 + 1 + 1, 0, none⟩) (hg.block _ (by show w.heap.size + 1 + 1 + 1 + 1 < _; omega) (fun h => ho.2.2.2 (Option.some.inj h).symm))).trans e⟩

theorem impl_Part.PI_own {w : World} {a0 : Int} {acc : List S59} {A B : World} {row : Option Nat} (h : impl_Part.PI w a0 acc A) (hg : A.grownBy B row) (hr : ∀ r, row = some r → w.heap.size ≤ r ∧ ∃ o : Obj, A.heap[r]? = some o ∧ o.isCells = false) : impl_Part.PI w a0 acc B := by
 obtain ⟨g, cap, m, hl, h1, h2, h3, hS, hB, hs⟩ := h
 have hr' : ∀ r, row = some r → ∃ o : Obj, A.heap[r]? = some o ∧ o.isCells = false := fun r e => (hr r e).2
 refine ⟨g, cap, m, hl, cell_kept h1 hg hr', (frozen_kept h1 hg hr').trans h2, cell_kept h3 hg hr', ?_, hB.grown hg (by omega) (fun k e => (hr k e).1), Nat.le_trans hs hg.size⟩
 refine Kd.S_mono (Kd.S_grown (Kd.S_bound hS) hg (fun k hk e => ?_)) (fun k hk => hk.1)
 obtain ⟨o, ho, hc⟩ := hr' k e.symm
 obtain ⟨_, _, _, q, _, cells, hcl⟩ := hk
 rw [hcl] at ho
 cases ho
 cases hc
theorem impl_Part.set_cell {W : World} {g j b : Nat} {u v : Value} (hn : b ≠ g) (h : W.cell? ⟨b, 0, none⟩ = some u) : (W.setCell ⟨g, j, none⟩ v).cell? ⟨b, 0, none⟩ = some u := by
 rw [World.cell?_setCell_other _ _ _ _ (fun e => hn (congrArg Addr.block e).symm)]; exact h
theorem impl_Part.flag {w W : World} {a0 : Int} {acc : List S59} {g cap m : Nat} (h : impl_Part.PIc w W a0 acc g cap m) (q : Int) : Kd.S k59 59 (W.setCell ⟨g, m * 4 + 1, none⟩ (.int .i64 q)) w.heap.size (impl_Part.ok w) (.slice (some ⟨g, 0, none⟩) (m + 1) cap) (impl_Part.fl acc q) ∧ Below w.heap.size w (W.setCell ⟨g, m * 4 + 1, none⟩ (.int .i64 q)) := by
 obtain ⟨hl, h1, h2, h3, hS, hB, hs⟩ := h
 obtain ⟨A3, c3, _, _, _, _, hgo, hgb, hgl, hs1, hs3⟩ := part_el hS m (by omega)
 have e : acc.length - 1 = m := by omega
 refine ⟨?_, below_set hB hgb⟩
 unfold impl_Part.fl
 rw [e]
 exact hs1 q
theorem impl_Part.store {w W : World} {a0 : Int} {acc : List S59} {g cap m : Nat} (h : impl_Part.PIc w W a0 acc g cap m) {w6 : World} {v0 : Value} {p : List Int} (hb : Below W.heap.size W w6) (hr : Kd.R (Kd.int .u8) 5 w6 W.heap.size (fun _ => True) v0 p) :
  impl_Part.Stp w W (w6.setCell ⟨g, m * 4 + 3, none⟩ v0) ∧ impl_Part.PIc w (w6.setCell ⟨g, m * 4 + 3, none⟩ v0) a0 (acc.set m ⟨(acc.getD m z59).f0, (acc.getD m z59).f1, (acc.getD m z59).f2, p⟩) g cap m := by
 obtain ⟨hl, h1, h2, h3, hS, hB, hs⟩ := h
 obtain ⟨A3, c3, _, _, _, _, hgo, hgb, hgl, hs1, hs3⟩ := part_el hS m (by omega)
 refine ⟨(impl_Part.stp_below hs hb).trans (impl_Part.stp_set hgo v0), by simp [hl], impl_Part.set_cell (Ne.symm hgo.2.1) ((hb.cell (p := ⟨w.heap.size + 1 + 1, 0, none⟩) (by show w.heap.size + 1 + 1 < _; omega)).trans h1), ?_, impl_Part.set_cell (Ne.symm hgo.1) ((hb.cell (p := ⟨w.heap.size, 0, none⟩) (by show w.heap.size < _; omega)).trans h3), hs3 w6 p v0 hb hr (fun k hk => ⟨by omega, by omega, by omega, by omega⟩), below_set (below_step hB hb) hgb, by simp; exact Nat.le_trans hs hb.size⟩
 rw [World.frozen?_setCell]
 exact (World.frozen?_of_block (a := ⟨w.heap.size + 1 + 1, 0, none⟩) (hb.block _ (by show w.heap.size + 1 + 1 < _; omega))).trans h2
theorem impl_Part.app {w W : World} {a0 : Int} {acc : List S59} {g cap m : Nat} (h : impl_Part.PIc w W a0 acc g cap m) {w1 : World} {v1 : Value} {p : S59} (hS1 : Kd.S k59 59 w1 w.heap.size (impl_Part.ok w) v1 (acc ++ [p])) (hB1 : Below w.heap.size w w1) (hg : W.grownBy w1 (some g)) :
  ∃ g1 cap1, v1 = .slice (some ⟨g1, 0, none⟩) (m + 1 + 1) cap1 ∧ w1.cell? ⟨w.heap.size + 1 + 1, 0, none⟩ = some (.slice (some ⟨g, 0, none⟩) (m + 1) cap) ∧ w1.frozen? ⟨w.heap.size + 1 + 1, 0, none⟩ = false ∧
   impl_Part.Stp w W (w1.setCell ⟨w.heap.size + 1 + 1, 0, none⟩ v1) ∧ impl_Part.PIc w (w1.setCell ⟨w.heap.size + 1 + 1, 0, none⟩ v1) a0 (acc ++ [p]) g1 cap1 (m + 1) := by
 obtain ⟨hl, h1, h2, h3, hS, hB, hs⟩ := h
 obtain ⟨A3, c3, _, _, _, _, hgo, hgb, hgl, hs1, hs3⟩ := part_el hS m (by omega)
 obtain ⟨_, _, hv, _, _, hcells⟩ := Kd.S_form hS (by omega)
 injection hv with hA _ _
 injection hA with hA
 injection hA with hA
 subst hA
 obtain ⟨g1, cap1, hv1, _⟩ := Kd.S_form hS1 (by simp)
 have hl1 : (acc ++ [p]).length = m + 1 + 1 := by simp [hl]
 rw [hl1] at hv1
 subst hv1
 have hc1 : w1.cell? ⟨w.heap.size + 1 + 1, 0, none⟩ = some (.slice (some ⟨g, 0, none⟩) (m + 1) cap) := (World.cell?_of_block (a := ⟨w.heap.size + 1 + 1, 0, none⟩) (hg.block _ (by show w.heap.size + 1 + 1 < _; omega) (fun e => hgo.2.1 (Option.some.inj e).symm))).trans h1
 have hf1 : w1.frozen? ⟨w.heap.size + 1 + 1, 0, none⟩ = false := (World.frozen?_of_block (a := ⟨w.heap.size + 1 + 1, 0, none⟩) (hg.block _ (by show w.heap.size + 1 + 1 < _; omega) (fun e => hgo.2.1 (Option.some.inj e).symm))).trans h2
 have hc0 : w1.cell? ⟨w.heap.size, 0, none⟩ = some (.int .i64 a0) := (World.cell?_of_block (a := ⟨w.heap.size, 0, none⟩) (hg.block _ (by show w.heap.size < _; omega) (fun e => hgo.1 (Option.some.inj e).symm))).trans h3
 refine ⟨g1, cap1, rfl, hc1, hf1, (impl_Part.stp_grown hs hg hgo hcells).trans (impl_Part.stp_gl _), hl1, World.cell?_setCell_same' _ _ _ (by rw [hc1]; rfl), by rw [World.frozen?_setCell]; exact hf1, impl_Part.set_cell (by omega) hc0, Kd.S_far hS1 (fun k hk => hk.2.1) _, below_set hB1 (by omega), by simp; exact Nat.le_trans hs hg.size⟩
theorem impl_Part.start {w w4 : World} {a0 : Int} (fl : Int) (A0 : Option Addr) (n c : Nat) (m : Int) (hs4 : w4.heap.size = w.heap.size + 1) (hc4 : w4.cell? ⟨w.heap.size, 0, none⟩ = some (.int .i64 a0)) (hB4 : Below w.heap.size w w4) {W5 : World}
  (e : (((w4.alloc (.cells #[.int .i64 1, .int .i64 fl, .int .i64 a0, .slice none 0 0] 59)).alloc (.cells #[.slice (some ⟨w.heap.size + 1, 0, none⟩) 1 1] 35)).alloc (.cells #[.slice A0 n c] 22)).alloc (.cells #[.int .i64 m] 3) = W5) :
  W5.heap.size = w.heap.size + 5 ∧ impl_Part.PIc w W5 a0 [⟨1, fl, a0, []⟩] (w.heap.size + 1) 1 0 ∧ W5.cell? ⟨w.heap.size + 1 + 1 + 1, 0, none⟩ = some (.slice A0 n c) ∧ W5.cell? ⟨w.heap.size + 1 + 1 + 1 + 1, 0, none⟩ = some (.int .i64 m) := by
 subst e
 have hS := part_lit (W := w4) w.heap.size (impl_Part.ok w) (by omega) ⟨by omega, by omega, by omega, by omega⟩ ⟨1, fl, a0, []⟩ rfl
 rw [hs4] at hS
 refine ⟨by simp [hs4], ⟨rfl, ?_, ?_, ?_, Kd.S_alloc (Kd.S_alloc (Kd.S_alloc hS _) _) _, ?_, by simp [hs4]⟩, ?_, ?_⟩
 ·
  rw [World.cell?_alloc_past, World.cell?_alloc_past, World.cell?_alloc_at]
  ·
   rfl
  ·
   simp [hs4]
  ·
   simp [hs4]
  ·
   simp [hs4]
 ·
  rw [World.frozen?_alloc_past, World.frozen?_alloc_past, World.frozen?_alloc_at]
  ·
   simp [hs4]
  ·
   simp [hs4]
  ·
   simp [hs4]
 ·
  rw [World.cell?_alloc_past, World.cell?_alloc_past, World.cell?_alloc_past, World.cell?_alloc_past]
  ·
   exact hc4
  ·
   simp [hs4]
  ·
   simp [hs4]; omega
  ·
   simp [hs4]; omega
  ·
   simp [hs4]; omega
 ·
  exact (((hB4.alloc (by omega) _).alloc (by simp; omega) _).alloc (by simp; omega) _).alloc (by simp; omega) _
 ·
  rw [World.cell?_alloc_past, World.cell?_alloc_at]
  ·
   rfl
  ·
   simp [hs4]
  ·
   simp [hs4]
 ·
  rw [World.cell?_alloc_at]
  ·
   rfl
  ·
   simp [hs4]

theorem impl_Part.numsd {a K mm m c : Nat} (hl : a = mm + 1) (hal : a ≤ K + 1) (hk : K = 0 ∨ (K - 1) * m < c) (hm : 1 ≤ m) (hlen : c < 2000000000000) : wrap64 (mm : Int) = (mm : Int) ∧ mm < mm + 1 := by
 have : mm ≤ c := by
  rcases hk with h | h
  ·
   omega
  ·
   have := Nat.le_mul_of_pos_right (K - 1) hm
   omega
 refine ⟨?_, by omega⟩
 unfold wrap64; omega
theorem impl_Part.fr_pos {acc : List S59} {mm : Nat} (s : Int) (p : List Int) (hl : acc.length = mm + 1) (h : 0 < (acc.getD mm z59).f3.length) :
  impl_Part.fr s acc p = (acc ++ [(⟨9, 0, s, []⟩ : S59)]).set (mm + 1) ⟨((acc ++ [(⟨9, 0, s, []⟩ : S59)]).getD (mm + 1) z59).f0, ((acc ++ [(⟨9, 0, s, []⟩ : S59)]).getD (mm + 1) z59).f1, ((acc ++ [(⟨9, 0, s, []⟩ : S59)]).getD (mm + 1) z59).f2, p⟩ := by
 have e : (acc ++ [(⟨9, 0, s, []⟩ : S59)]).getD (mm + 1) z59 = ⟨9, 0, s, []⟩ := by rw [← hl]; simp
 have e2 : acc.length - 1 = mm := by omega
 unfold impl_Part.fr
 rw [e2, if_pos h, e, ← hl, List.set_append_right _ _ (Nat.le_refl _)]
 simp
theorem impl_Part.fr_neg {acc : List S59} {mm : Nat} (s : Int) (p : List Int) (hl : acc.length = mm + 1) (h : ¬ 0 < (acc.getD mm z59).f3.length) :
  impl_Part.fr s acc p = acc.set mm ⟨(acc.getD mm z59).f0, (acc.getD mm z59).f1, (acc.getD mm z59).f2, p⟩ := by
 have e2 : acc.length - 1 = mm := by omega
 unfold impl_Part.fr
 rw [e2, if_neg h]
theorem impl_Part.nums {a b c mm : Nat} (hl : a = mm + 1) (hal : a ≤ b + 1) (hlt : b < c) (hlen : c < 2000000000000) : wrap64 (mm : Int) = (mm : Int) ∧ wrap64 ((mm : Int) + 1) = (mm : Int) + 1 ∧ ((mm : Int) + 1).toNat = mm + 1 ∧ (a + 1) * 48 ≤ 140737488355328 ∧ mm < mm + 1 := by
 refine ⟨?_, ?_, ?_, ?_, ?_⟩
 ·
  unfold wrap64; omega
 ·
  unfold wrap64; omega
 ·
  omega
 ·
  omega
 ·
  omega
theorem impl_Part.okf {w W : World} (hs : w.heap.size + 5 ≤ W.heap.size) (k : Nat) (hk : W.heap.size ≤ k) : impl_Part.ok w k := ⟨by omega, by omega, by omega, by omega⟩
def rfBody : Code → Option Code
 | .rangeFunc _ _ _ b => some b
 | .seq a b => match rfBody a with | some c => some c | none => rfBody b
 | .block _ c => rfBody c
 | _ => none
set_option maxRecDepth 100000 in
set_option maxHeartbeats 8000000 in
theorem impl_Part.body {B : Code} (hB0 : (Try.f19.body.bind rfBody) = some B) (w W : World) (a0 : Int) (acc : List S59) (g cap mm b c : Nat) (A' : Option Addr) (p : List Int) (lp : Nat) (hC' : ∀ W', Below w.heap.size w W' → Kd.C (Kd.int .u8) W' A' p.length p) (hcl : slices_Clone_byte_byte.f p = some p)
  (hPc : impl_Part.PIc w W a0 acc g cap mm) (hal : acc.length ≤ b + 1) (hlt : b < c) (hlen : c < 2000000000000) (Q : Exit → Act → World → Prop)
  (hQ' : ∀ (a : Act) (W' : World), impl_Part.Stp w W W' → impl_Part.PI w a0 (impl_Part.fr a0 acc p) W' → Q .normal a W') {t0 t1 t2 t3 t5 t6 t7 t8 t11 t12 t13 t14 t15 t16 t17 t18 t19 t20 t21 t22 t23 t24 t25 t26 t27 t28 t29 t30 t31 t32 t33 t34 t35 t36 t37 t38 t39 t40 t41 t42 t43 t44 t45 t46 t47 t48 t49 t50 t51 t52 t53 t54 t55 t56 t57 t58 t59 t60 t61 t62 t63 t64 t65 : Value} :
  B.wpIn (Fence.wide.inRound lp) 2 Try.prog Q { tmps := #[t0, t1, t2, t3, .pointer (some ⟨w.heap.size, 0, none⟩), t5, t6, t7, t8, .pointer (some ⟨w.heap.size + 1 + 1, 0, none⟩), .slice A' p.length p.length, t11, t12, t13, t14, t15, t16, t17, t18, t19, t20, t21, t22, t23, t24, t25, t26, t27, t28, t29, t30, t31, t32, t33, t34, t35, t36, t37, t38, t39, t40, t41, t42, t43, t44, t45, t46, t47, t48, t49, t50, t51, t52, t53, t54, t55, t56, t57, t58, t59, t60, t61, t62, t63, t64, t65], defers := [] } W := by
 simp only [Try.f19, Option.bind_some, rfBody, Option.some.injEq] at hB0
 subst hB0
 have hu1 := Try.underlying35
 have hu2 := Try.underlying59
 obtain ⟨i0, hinf, _, hzs, _⟩ := info_parts info59
 have hC := Aside0.mk hC'
 have hQ := Aside0.mk hQ'
 have HP := Aside0.mk hPc
 obtain ⟨hl, hc1, hf1, hb0, hS, hB, hs⟩ := hPc
 obtain ⟨A3, c3, q1, q3, f1, f3, hgo, hgb, hgl, hs1, hs3⟩ := part_el hS mm (by omega)
 obtain ⟨L, hL⟩ : ∃ L, L = (acc.getD mm z59).f3.length := ⟨_, rfl⟩
 rw [← hL] at q3
 obtain ⟨hwm, hwm1, htn, hby, hmm1⟩ := impl_Part.nums hl hal hlt hlen
 have hok6 := impl_Part.okf (w := w) hs
 have hsb := Nat.le_trans (Nat.le_add_right _ 5) hs
 have HL := Aside0.mk hL
 have HB := Aside0.mk hB
 have HS := Aside0.mk hS
 have HH := Aside0.mk hl
 clear hL hB hS hgo hs1 hs3 q1 f1 hC' hQ' hal hlt hlen hl
 by_cases hpos : 0 < L
 ·
  gi_wp2_with (first | (gi_at_builtin; refine part_append_in k59 (w0 := w) w.heap.size rfl _ _ 35 59 _ 48 rfl hu1 info59 rfl (by decide) (by decide) (.slice (some ⟨g, 0, none⟩) (mm + 1) cap) acc (⟨9, 0, a0, []⟩ : S59) [.int .i64 9, .int .i64 0, .int .i64 a0, .slice none 0 0] (impl_Part.ok w) (fun _ => False) rfl ?q1 ?q2 (fun _ h => h.elim) ?q3 ?q4 HB.out hsb hby ?_; (case q1 => rfl); (case q2 => exact k59_mkM _ _ _ ⟨9, 0, a0, []⟩ (Kd.R_nil _ _ _ _ _)); (case q3 => exact hok6); (case q4 => exact (Kd.S_mono HS.out (fun _ hk_ => ⟨hk_, fun h => h.elim⟩))); intro v1 w1 hS1 hB1 hg1; obtain ⟨g1, cap1, rfl, hcc1, hff1, hst1, hPc1⟩ := impl_Part.app HP.out hS1 hB1 hg1; obtain ⟨A4, c4, q41, q43, f41, f43, _, _, hgl4, _, _⟩ := part_el hPc1.2.2.2.2.1 (mm + 1) (Nat.lt_succ_self _); have HP1 := Aside0.mk hPc1; have HT1 := Aside0.mk hst1; have HB1 := Aside0.mk hPc1.2.2.2.2.2.1; clear hS1 hB1 hg1 hst1 hPc1 q41 f41) | (refine ⟨trivial, ?_⟩; gi_at_call 59; refine (CallsIn.inRound lp (callsIn_wide.2 (slices_Clone_byte_byte.calls A' _ p p _ (hC.out _ HB1.out) (Nat.le_refl _) hcl))).mono ?_; rintro e w6 ⟨v6, rfl, hr6, hb6⟩; obtain ⟨A6, c6, rfl⟩ := Kd.R_slice hr6; have h6 := Aside0.mk hr6; have b6 := Aside0.mk hb6; have q63 := (hb6.cell (p := ⟨g1, (mm + 1) * 4 + 3, none⟩) hgl4).trans q43; have f63 := (World.frozen?_of_block (a := ⟨g1, (mm + 1) * 4 + 3, none⟩) (hb6.block _ hgl4)).trans f43; clear hr6 hb6))
  obtain ⟨st, pc⟩ := impl_Part.store HP1.out b6.out h6.out
  exact hQ.out _ _ (HT1.out.trans st) ⟨_, _, _, by rw [impl_Part.fr_pos a0 p HH.out (by rw [← HL.out]; exact hpos)]; exact pc⟩
 ·
  gi_wp2_with (first | (refine ⟨trivial, ?_⟩; gi_at_call 59; refine (CallsIn.inRound lp (callsIn_wide.2 (slices_Clone_byte_byte.calls A' _ p p _ (hC.out _ HB.out) (Nat.le_refl _) hcl))).mono ?_; rintro e w6 ⟨v6, rfl, hr6, hb6⟩; obtain ⟨A6, c6, rfl⟩ := Kd.R_slice hr6; have h6 := Aside0.mk hr6; have b6 := Aside0.mk hb6; have q63 := (hb6.cell (p := ⟨g, mm * 4 + 3, none⟩) hgl).trans q3; have f63 := (World.frozen?_of_block (a := ⟨g, mm * 4 + 3, none⟩) (hb6.block _ hgl)).trans f3; clear hr6 hb6))
  obtain ⟨st, pc⟩ := impl_Part.store HP.out b6.out h6.out
  exact hQ.out _ _ st ⟨_, _, _, by rw [impl_Part.fr_neg a0 p HH.out (by rw [← HL.out]; exact hpos)]; exact pc⟩


theorem impl_Part.numK {K m n : Nat} (hm : 1 ≤ m) (h1 : n ≤ K * m) (h2 : K = 0 ∨ (K - 1) * m < n) : K = (n + m - 1) / m := by
 refine (Nat.div_eq_of_lt_le ?_ ?_).symm
 ·
  rcases h2 with h | h
  ·
   subst h; simp
  ·
   cases K with
   | zero => simp
   | succ K =>
    rw [Nat.add_sub_cancel] at h
    rw [Nat.succ_mul]
    omega
 ·
  rw [Nat.succ_mul]; omega
def impl_Part.go (a0 : Int) (fl : Int) (l0 : List Int) (m : Nat) (ks : List Nat) : List S59 := ks.foldl (fun acc k => impl_Part.fr a0 acc (impl_Part.ch l0 m k)) [⟨1, fl, a0, []⟩]
theorem impl_Part.go_len (a0 fl : Int) (l0 : List Int) (m : Nat) (ks : List Nat) : 0 < (impl_Part.go a0 fl l0 m ks).length ∧ (impl_Part.go a0 fl l0 m ks).length ≤ ks.length + 1 := by
 have key : ∀ (ks : List Nat) (acc : List S59), 0 < acc.length → 0 < (ks.foldl (fun acc k => impl_Part.fr a0 acc (impl_Part.ch l0 m k)) acc).length ∧ (ks.foldl (fun acc k => impl_Part.fr a0 acc (impl_Part.ch l0 m k)) acc).length ≤ acc.length + ks.length := by
  intro ks
  induction ks with
  | nil => intro acc h; simpa using h
  | cons k ks ih =>
   intro acc h
   have h1 := impl_Part.fr_len a0 acc (impl_Part.ch l0 m k) h
   have h2 := ih _ h1.1
   rw [List.foldl_cons, List.length_cons]
   exact ⟨h2.1, by omega⟩
 have := key ks [⟨1, fl, a0, []⟩] (by simp)
 unfold impl_Part.go
 refine ⟨this.1, ?_⟩
 have h2 := this.2
 simp only [List.length_cons, List.length_nil] at h2
 omega
set_option maxRecDepth 100000 in
set_option maxHeartbeats 8000000 in
theorem impl_Part.callsT (a0 : Int) (a1 : Bool) (A0 : Option Addr) (c0 : Nat) (l0 : List Int) (a3 : Int) (w : World) (hr0 : Kd.C (Kd.int .u8) w A0 l0.length l0) (hc0 : l0.length ≤ c0) (hlen : l0.length < 2000000000000) (hin : 1 ≤ a0 ∧ a0 ≤ 2147483647) (m : Nat) (x : Int) (hmn : (if 1000 < a3 then 1000 else a3) = x) (hmx : (if 1 < x then x else 1) = (m : Int)) (hm1 : 1 ≤ m) (hm2 : m ≤ 1000) (r : List S59) (hres' : impl_Part.fl (impl_Part.go a0 (if a1 then 1 else 0) l0 m (List.range ((l0.length + m - 1) / m))) (bits .or .i64 ((impl_Part.go a0 (if a1 then 1 else 0) l0 m (List.range ((l0.length + m - 1) / m))).getD ((impl_Part.go a0 (if a1 then 1 else 0) l0 m (List.range ((l0.length + m - 1) / m))).length - 1) z59).f1 4) = r) :
  Calls Try.prog 19 #[.int .i64 a0, .bool a1, .slice A0 l0.length c0, .int .i64 a3] w fun e w' => ∃ v0_ : Value, e = .returned v0_ ∧ Kd.S k59 59 w' w.heap.size (fun _ => True) v0_ r ∧ Below w.heap.size w w' := by
 refine (callsIn_wide (n := 4)).1 ?_
 refine callsIn_of_wp_marks Try.func19 rfl trivial ?_ rfl
 simp only [Try.ntmps19, List.size_toArray, List.length_cons, List.length_nil, Nat.reduceAdd, Nat.reduceSub, Array.replicate_succ, Array.replicate_zero, List.push_toArray, List.append_toArray, List.nil_append, List.cons_append]
 have hu1 := Try.underlying35
 have hu2 := Try.underlying59
 obtain ⟨i0, hinf, _, hzs, _⟩ := info_parts info59
 have hA : 0 < l0.length → ∃ ad, A0 = some ad := fun hp => by
  obtain ⟨ad, e, _⟩ := hr0.2.2 hp
  exact ⟨ad, e⟩
 have HR0 := Aside0.mk hr0
 obtain ⟨h1, h2⟩ := hin
 have HLEN := Aside0.mk hlen
 have hres := Aside0.mk hres'
 clear hlen hres' hr0
 rcases a1 with _ | _ <;> gi_wp2_with (first | (refine ⟨trivial, ?_⟩; gi_at_call 53; refine (callsIn_wide.2 (impl_inRange.calls a0 1 2147483647 true _ (by unfold impl_inRange.f; rw [if_pos (by omega), decide_eq_true (by omega)]))).mono ?_; rintro e w4 ⟨rfl, hd⟩; have hs4 : w4.heap.size = w.heap.size + 1 := (by obtain ⟨⟨q, rfl⟩⟩ := hd; simp); have hc4 : w4.cell? ⟨w.heap.size, 0, none⟩ = some (.int .i64 a0) := (by obtain ⟨⟨q, rfl⟩⟩ := hd; simp); have hB4 : Aside0 (Below w.heap.size w w4) := ⟨((Below.refl _ w).alloc (Nat.le_refl _) (.cells #[.int .i64 a0] 3)).trans (hd.below.mono (by simp))⟩; clear hd) | (refine ⟨trivial, ?_⟩; gi_at_call 58; refine (chunk_in Fence.wide _ trivial rfl A0 l0.length c0 m hm1 _).mono ?_; rintro e w5 ⟨rfl, rfl⟩))
 ·
  obtain ⟨W5, hW5⟩ : ∃ W5, (((w4.alloc (.cells #[.int .i64 1, .int .i64 0, .int .i64 a0, .slice none 0 0] 59)).alloc (.cells #[.slice (some ⟨w.heap.size + 1, 0, none⟩) 1 1] 35)).alloc (.cells #[.slice A0 l0.length c0] 22)).alloc (.cells #[.int .i64 (m : Int)] 3) = W5 := ⟨_, rfl⟩
  rw [hW5]
  obtain ⟨hs5, hP5, hBs, hBn⟩ := impl_Part.start 0 A0 l0.length c0 (m : Int) hs4 hc4 hB4.out hW5
  clear hW5 hB4 hc4 hs4
  apply wpIn_rangeFunc_ownG (F := Fence.wide) (n := 4) rfl (by decide) (gf := 88) (lb := #[.pointer (some ⟨w.heap.size + 1 + 1 + 1, 0, none⟩), .pointer (some ⟨w.heap.size + 1 + 1 + 1 + 1, 0, none⟩)]) rfl trivial (enters_of Try.func88 (by kernel_rfl) rfl)
   (chunk_stops Fence.wide (4 - 1) trivial rfl (by decide) (w.heap.size + 1 + 1 + 1) (w.heap.size + 1 + 1 + 1 + 1) A0 l0.length c0 m hc0 (by have := HLEN.out; omega) hm1 hm2 hA W5 (by omega) (by omega) hBs hBn)
   (fun h k => ⟨fun v e => k.1 v (h.1 v e), fun v e => k.2 v (h.2 v e)⟩)
   (fun W l o o' hl h hc _ => ⟨fun v e => cell_kept e (grownBy_putObj' W l o') (fun r er => by cases er; exact ⟨o, h, hc⟩), fun v e => cell_kept e (grownBy_putObj' W l o') (fun r er => by cases er; exact ⟨o, h, hc⟩)⟩)
   (Below.refl _ _) (fun _ => rfl)
   (fun (pre : List (ChunkIx l0.length m)) W => impl_Part.PI w a0 (impl_Part.go a0 0 l0 m (pre.map (fun (y : ChunkIx l0.length m) => y.1))) W)
   (fun _ _ _ => False)
   (fun s A B row hs hg hr => impl_Part.PI_own hs hg (fun r e => ⟨by have := (hr r e).1; omega, (hr r e).2⟩))
   (fun _ _ _ _ _ hs _ _ => hs)
   ⟨_, _, _, hP5⟩ _ ?assign ?body ?done ?stop
  case assign =>
   intro l x W K hK
   gi_wp2
   exact hK
  case body =>
   rintro lp pre ⟨k, hk⟩ W ⟨g, cap, mm, hPc⟩ hlt
   have hgo2 : impl_Part.go a0 0 l0 m ((pre ++ [(⟨k, hk⟩ : ChunkIx l0.length m)]).map (fun (y : ChunkIx l0.length m) => y.1)) = impl_Part.fr a0 (impl_Part.go a0 0 l0 m (pre.map (fun (y : ChunkIx l0.length m) => y.1))) (impl_Part.ch l0 m k) := by
    simp only [impl_Part.go, List.map_append, List.map_cons, List.map_nil, List.foldl_append, List.foldl_cons, List.foldl_nil]
   have hal : (impl_Part.go a0 0 l0 m (pre.map (fun (y : ChunkIx l0.length m) => y.1))).length ≤ pre.length + 1 := by
    have := impl_Part.go_len a0 0 l0 m (pre.map (fun (y : ChunkIx l0.length m) => y.1))
    rw [List.length_map] at this
    omega
   obtain ⟨acc, hacc⟩ : ∃ acc, acc = impl_Part.go a0 0 l0 m (pre.map (fun (y : ChunkIx l0.length m) => y.1)) := ⟨_, rfl⟩
   rw [← hacc] at hPc hgo2 hal
   obtain ⟨p, hp⟩ : ∃ p, p = impl_Part.ch l0 m k := ⟨_, rfl⟩
   rw [← hp] at hgo2
   have hpl : p.length = min m (l0.length - k * m) := by
    rw [hp]; unfold impl_Part.ch; rw [List.length_drop, List.length_take]; omega
   obtain ⟨A', hA'⟩ : ∃ A', A' = A0.map (·.add (k * m * 1)) := ⟨_, rfl⟩
   dsimp only [chunkV]
   rw [← hpl, ← hA']
   have hC : Aside0 (∀ W', Below w.heap.size w W' → Kd.C (Kd.int .u8) W' A' p.length p) := ⟨fun W' hb => by
    have := Kd.C_mid (lo := k * m) (hi := k * m + min m (l0.length - k * m)) (c := c0) (Kd.C_below HR0.out hb) (by omega) (by omega) hc0
    rw [if_neg (by omega)] at this
    rw [hA', hp]
    exact this⟩
   have hcl : slices_Clone_byte_byte.f p = some p := by
    unfold slices_Clone_byte_byte.f
    simp only [Option.bind_some, List.length_nil, Nat.zero_add, List.nil_append]
    rw [if_pos (by omega)]
   refine impl_Part.body ?hb w W a0 acc g cap mm pre.length l0.length A' p lp hC.out hcl hPc hal hlt HLEN.out _ (fun a_ W_ h1_ h2_ => ⟨by rw [hs5]; exact h1_.1, h1_.2, by have h3_ := h2_; rw [← hgo2] at h3_; exact h3_⟩)
   case hb => kernel_rfl
  case done =>
   rintro D ys W hD ⟨K, hys, hK1, hK2⟩ ⟨g, cap, mm, hPc⟩ hK
   have hgl := impl_Part.go_len a0 0 l0 m (ys.map (fun (y : ChunkIx l0.length m) => y.1))
   have hgy : ys.map (fun (y : ChunkIx l0.length m) => y.1) = List.range K := hys
   rw [hgy] at hgl hPc
   rw [List.length_range] at hgl
   obtain rfl : K = (l0.length + m - 1) / m := impl_Part.numK hm1 hK1 hK2
   obtain ⟨acc, hacc⟩ : ∃ acc, acc = impl_Part.go a0 0 l0 m (List.range ((l0.length + m - 1) / m)) := ⟨_, rfl⟩
   have hres' : impl_Part.fl acc (bits .or .i64 (acc.getD (acc.length - 1) z59).f1 4) = r := by rw [hacc]; exact hres.out
   rw [← hacc] at hPc hgl
   have HP := Aside0.mk hPc
   obtain ⟨hl, hc1, hf1, hb0, hS, hB, hs⟩ := hPc
   have hl1 : acc.length - 1 = mm := by omega
   rw [hl1] at hres'
   obtain ⟨hwm, hmm1⟩ := impl_Part.numsd hl hgl.2 hK2 hm1 HLEN.out
   obtain ⟨A3, c3, q1, q3, f1, f3, hgo, hgb, hgl2, hs1, hs3⟩ := part_el hS mm (by omega)
   obtain ⟨F1, hF1⟩ : ∃ F1, F1 = (acc.getD mm z59).f1 := ⟨_, rfl⟩
   rw [← hF1] at q1 hres'
   have HR := Aside0.mk hres'
   have HKK := Aside0.mk hK
   have hD' : w.heap.size ≤ D := by omega
   have HD := Aside0.mk hD'
   clear hs1 hs3 hS hP5 hBs hBn hys hgy hF1 hacc hres' hl hl1 hgl hK1 hK2 hm1 hm2 hD hD' hK hs hs5 q3 f3 hA hmn hmx
   gi_wp2
   have hK' := (KeepsOthers.setCell W ⟨g, mm * 4 + 1, none⟩ (.int .i64 (bits .or .i64 F1 4))).same D _ HKK.out rfl
   obtain ⟨hSf, hBf⟩ := impl_Part.flag HP.out (bits .or .i64 F1 4)
   refine ⟨by simp, .inl ⟨_, _, rfl, run_takeDeferred hK', ?_⟩⟩
   refine ⟨_, results_tmp rfl _ _ _, _, rfl, ?_, hBf.trans (belowK_b (w := w) (Nat.le_refl _) _ D _ _ HD.out hK' rfl rfl)⟩
   rw [← HR.out]
   refine Kd.S_mono (Kd.S_grown (Kd.S_bound hSf) (grownBy_putObj' _ D _) (fun k_ hk_ e_ => ?_)) (fun _ _ => trivial)
   obtain ⟨_, _, _, q, _, cells, hcl⟩ := hk_
   cases e_
   rw [hK'] at hcl
   cases hcl
  case stop =>
   rintro D c pre W hD _ h _
   exact h.elim

 ·
  obtain ⟨W5, hW5⟩ : ∃ W5, (((w4.alloc (.cells #[.int .i64 1, .int .i64 1, .int .i64 a0, .slice none 0 0] 59)).alloc (.cells #[.slice (some ⟨w.heap.size + 1, 0, none⟩) 1 1] 35)).alloc (.cells #[.slice A0 l0.length c0] 22)).alloc (.cells #[.int .i64 (m : Int)] 3) = W5 := ⟨_, rfl⟩
  rw [hW5]
  obtain ⟨hs5, hP5, hBs, hBn⟩ := impl_Part.start 1 A0 l0.length c0 (m : Int) hs4 hc4 hB4.out hW5
  clear hW5 hB4 hc4 hs4
  apply wpIn_rangeFunc_ownG (F := Fence.wide) (n := 4) rfl (by decide) (gf := 88) (lb := #[.pointer (some ⟨w.heap.size + 1 + 1 + 1, 0, none⟩), .pointer (some ⟨w.heap.size + 1 + 1 + 1 + 1, 0, none⟩)]) rfl trivial (enters_of Try.func88 (by kernel_rfl) rfl)
   (chunk_stops Fence.wide (4 - 1) trivial rfl (by decide) (w.heap.size + 1 + 1 + 1) (w.heap.size + 1 + 1 + 1 + 1) A0 l0.length c0 m hc0 (by have := HLEN.out; omega) hm1 hm2 hA W5 (by omega) (by omega) hBs hBn)
   (fun h k => ⟨fun v e => k.1 v (h.1 v e), fun v e => k.2 v (h.2 v e)⟩)
   (fun W l o o' hl h hc _ => ⟨fun v e => cell_kept e (grownBy_putObj' W l o') (fun r er => by cases er; exact ⟨o, h, hc⟩), fun v e => cell_kept e (grownBy_putObj' W l o') (fun r er => by cases er; exact ⟨o, h, hc⟩)⟩)
   (Below.refl _ _) (fun _ => rfl)
   (fun (pre : List (ChunkIx l0.length m)) W => impl_Part.PI w a0 (impl_Part.go a0 1 l0 m (pre.map (fun (y : ChunkIx l0.length m) => y.1))) W)
   (fun _ _ _ => False)
   (fun s A B row hs hg hr => impl_Part.PI_own hs hg (fun r e => ⟨by have := (hr r e).1; omega, (hr r e).2⟩))
   (fun _ _ _ _ _ hs _ _ => hs)
   ⟨_, _, _, hP5⟩ _ ?assign ?body ?done ?stop
  case assign =>
   intro l x W K hK
   gi_wp2
   exact hK
  case body =>
   rintro lp pre ⟨k, hk⟩ W ⟨g, cap, mm, hPc⟩ hlt
   have hgo2 : impl_Part.go a0 1 l0 m ((pre ++ [(⟨k, hk⟩ : ChunkIx l0.length m)]).map (fun (y : ChunkIx l0.length m) => y.1)) = impl_Part.fr a0 (impl_Part.go a0 1 l0 m (pre.map (fun (y : ChunkIx l0.length m) => y.1))) (impl_Part.ch l0 m k) := by
    simp only [impl_Part.go, List.map_append, List.map_cons, List.map_nil, List.foldl_append, List.foldl_cons, List.foldl_nil]
   have hal : (impl_Part.go a0 1 l0 m (pre.map (fun (y : ChunkIx l0.length m) => y.1))).length ≤ pre.length + 1 := by
    have := impl_Part.go_len a0 1 l0 m (pre.map (fun (y : ChunkIx l0.length m) => y.1))
    rw [List.length_map] at this
    omega
   obtain ⟨acc, hacc⟩ : ∃ acc, acc = impl_Part.go a0 1 l0 m (pre.map (fun (y : ChunkIx l0.length m) => y.1)) := ⟨_, rfl⟩
   rw [← hacc] at hPc hgo2 hal
   obtain ⟨p, hp⟩ : ∃ p, p = impl_Part.ch l0 m k := ⟨_, rfl⟩
   rw [← hp] at hgo2
   have hpl : p.length = min m (l0.length - k * m) := by
    rw [hp]; unfold impl_Part.ch; rw [List.length_drop, List.length_take]; omega
   obtain ⟨A', hA'⟩ : ∃ A', A' = A0.map (·.add (k * m * 1)) := ⟨_, rfl⟩
   dsimp only [chunkV]
   rw [← hpl, ← hA']
   have hC : Aside0 (∀ W', Below w.heap.size w W' → Kd.C (Kd.int .u8) W' A' p.length p) := ⟨fun W' hb => by
    have := Kd.C_mid (lo := k * m) (hi := k * m + min m (l0.length - k * m)) (c := c0) (Kd.C_below HR0.out hb) (by omega) (by omega) hc0
    rw [if_neg (by omega)] at this
    rw [hA', hp]
    exact this⟩
   have hcl : slices_Clone_byte_byte.f p = some p := by
    unfold slices_Clone_byte_byte.f
    simp only [Option.bind_some, List.length_nil, Nat.zero_add, List.nil_append]
    rw [if_pos (by omega)]
   refine impl_Part.body ?hb w W a0 acc g cap mm pre.length l0.length A' p lp hC.out hcl hPc hal hlt HLEN.out _ (fun a_ W_ h1_ h2_ => ⟨by rw [hs5]; exact h1_.1, h1_.2, by have h3_ := h2_; rw [← hgo2] at h3_; exact h3_⟩)
   case hb => kernel_rfl
  case done =>
   rintro D ys W hD ⟨K, hys, hK1, hK2⟩ ⟨g, cap, mm, hPc⟩ hK
   have hgl := impl_Part.go_len a0 1 l0 m (ys.map (fun (y : ChunkIx l0.length m) => y.1))
   have hgy : ys.map (fun (y : ChunkIx l0.length m) => y.1) = List.range K := hys
   rw [hgy] at hgl hPc
   rw [List.length_range] at hgl
   obtain rfl : K = (l0.length + m - 1) / m := impl_Part.numK hm1 hK1 hK2
   obtain ⟨acc, hacc⟩ : ∃ acc, acc = impl_Part.go a0 1 l0 m (List.range ((l0.length + m - 1) / m)) := ⟨_, rfl⟩
   have hres' : impl_Part.fl acc (bits .or .i64 (acc.getD (acc.length - 1) z59).f1 4) = r := by rw [hacc]; exact hres.out
   rw [← hacc] at hPc hgl
   have HP := Aside0.mk hPc
   obtain ⟨hl, hc1, hf1, hb0, hS, hB, hs⟩ := hPc
   have hl1 : acc.length - 1 = mm := by omega
   rw [hl1] at hres'
   obtain ⟨hwm, hmm1⟩ := impl_Part.numsd hl hgl.2 hK2 hm1 HLEN.out
   obtain ⟨A3, c3, q1, q3, f1, f3, hgo, hgb, hgl2, hs1, hs3⟩ := part_el hS mm (by omega)
   obtain ⟨F1, hF1⟩ : ∃ F1, F1 = (acc.getD mm z59).f1 := ⟨_, rfl⟩
   rw [← hF1] at q1 hres'
   have HR := Aside0.mk hres'
   have HKK := Aside0.mk hK
   have hD' : w.heap.size ≤ D := by omega
   have HD := Aside0.mk hD'
   clear hs1 hs3 hS hP5 hBs hBn hys hgy hF1 hacc hres' hl hl1 hgl hK1 hK2 hm1 hm2 hD hD' hK hs hs5 q3 f3 hA hmn hmx
   gi_wp2
   have hK' := (KeepsOthers.setCell W ⟨g, mm * 4 + 1, none⟩ (.int .i64 (bits .or .i64 F1 4))).same D _ HKK.out rfl
   obtain ⟨hSf, hBf⟩ := impl_Part.flag HP.out (bits .or .i64 F1 4)
   refine ⟨by simp, .inl ⟨_, _, rfl, run_takeDeferred hK', ?_⟩⟩
   refine ⟨_, results_tmp rfl _ _ _, _, rfl, ?_, hBf.trans (belowK_b (w := w) (Nat.le_refl _) _ D _ _ HD.out hK' rfl rfl)⟩
   rw [← HR.out]
   refine Kd.S_mono (Kd.S_grown (Kd.S_bound hSf) (grownBy_putObj' _ D _) (fun k_ hk_ e_ => ?_)) (fun _ _ => trivial)
   obtain ⟨_, _, _, q, _, cells, hcl⟩ := hk_
   cases e_
   rw [hK'] at hcl
   cases hcl
  case stop =>
   rintro D c pre W hD _ h _
   exact h.elim


def impl_Part.mo (a3 : Int) : Nat := (if 1 < (if 1000 < a3 then 1000 else a3) then (if 1000 < a3 then 1000 else a3) else 1 : Int).toNat
def impl_Part.ti (acc : List S59) : List S59 := impl_Part.fl acc (bits .or .i64 (acc.getD (acc.length - 1) z59).f1 4)
def impl_Part.f (a0 : Int) (a1 : Bool) (l0 : List Int) (a3 : Int) : Option (List S59) :=
 if 1 ≤ a0 ∧ a0 ≤ 2147483647 then (if l0.length < 2000000000000 then some (impl_Part.ti (impl_Part.go a0 (if a1 then 1 else 0) l0 (impl_Part.mo a3) (List.range ((l0.length + impl_Part.mo a3 - 1) / impl_Part.mo a3)))) else none) else some []
set_option maxRecDepth 100000 in
set_option maxHeartbeats 8000000 in
theorem impl_Part.callsF (a0 : Int) (a1 : Bool) (A0 : Option Addr) (c0 : Nat) (l0 : List Int) (a3 : Int) (w : World) (hin : ¬ (1 ≤ a0 ∧ a0 ≤ 2147483647)) :
  Calls Try.prog 19 #[.int .i64 a0, .bool a1, .slice A0 l0.length c0, .int .i64 a3] w fun e w' => e = .returned (.slice none 0 0) ∧ Below w.heap.size w w' := by
 refine (callsIn_wide (n := 4)).1 ?_
 refine callsIn_of_wp_marks Try.func19 rfl trivial ?_ rfl
 simp only [Try.ntmps19, List.size_toArray, List.length_cons, List.length_nil, Nat.reduceAdd, Nat.reduceSub, Array.replicate_succ, Array.replicate_zero, List.push_toArray, List.append_toArray, List.nil_append, List.cons_append]
 have hf : impl_inRange.f a0 1 2147483647 = some false := by
  unfold impl_inRange.f
  split
  ·
   rw [decide_eq_false (by omega)]
  ·
   rfl
 clear hin
 gi_wp2_with (first | (refine ⟨trivial, ?_⟩; gi_at_call 53; refine (callsIn_wide.2 (impl_inRange.calls a0 1 2147483647 false _ hf)).mono ?_; rintro e w4 ⟨rfl, hd⟩; have hB4 : Aside0 (Below w.heap.size w w4) := ⟨((Below.refl _ w).alloc (Nat.le_refl _) (.cells #[.int .i64 a0] 3)).trans (hd.below.mono (by simp))⟩; clear hd))
 exact ⟨_, results_tmp rfl _ _ _, rfl, hB4.out⟩
theorem impl_Part.calls (a0 : Int) (a1 : Bool) (A0 : Option Addr) (c0 : Nat) (l0 : List Int) (a3 : Int) (r : List S59) (w : World) (hr0 : Kd.C (Kd.int .u8) w A0 l0.length l0) (hc0 : l0.length ≤ c0) (h : impl_Part.f a0 a1 l0 a3 = some r) :
  Calls Try.prog 19 #[.int .i64 a0, .bool a1, .slice A0 l0.length c0, .int .i64 a3] w fun e w' => ∃ v0_ : Value, e = .returned v0_ ∧ Kd.S k59 59 w' w.heap.size (fun _ => True) v0_ r ∧ Below w.heap.size w w' := by
 unfold impl_Part.f at h
 by_cases hin : 1 ≤ a0 ∧ a0 ≤ 2147483647
 ·
  rw [if_pos hin] at h
  by_cases hl : l0.length < 2000000000000
  ·
   rw [if_pos hl] at h
   have h' := Option.some.inj h
   have hm : 1 ≤ impl_Part.mo a3 ∧ impl_Part.mo a3 ≤ 1000 := by unfold impl_Part.mo; constructor <;> (repeat' split) <;> omega
   refine impl_Part.callsT a0 a1 A0 c0 l0 a3 w hr0 hc0 hl hin (impl_Part.mo a3) (if 1000 < a3 then 1000 else a3) rfl ?_ hm.1 hm.2 r h'
   unfold impl_Part.mo
   rw [Int.toNat_of_nonneg]
   (repeat' split) <;> omega
  ·
   rw [if_neg hl] at h
   cases h
 ·
  rw [if_neg hin] at h
  have h' := Option.some.inj h
  subst h'
  refine (impl_Part.callsF a0 a1 A0 c0 l0 a3 w hin).mono ?_
  rintro e w' ⟨rfl, hb⟩
  exact ⟨_, rfl, Kd.S_nil _ _ _ _ _, hb⟩


end

end Go.Proofs.Ytlgfcpmihocheaa.A
