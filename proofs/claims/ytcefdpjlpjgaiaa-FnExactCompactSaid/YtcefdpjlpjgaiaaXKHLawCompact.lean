-- Written for this claim: a contract of one function, proved by hand; the places of its template filled by a program.
import Derived.Test.YtcefdpjlpjgaiaaXK0
import Derived.Test.YtcefdpjlpjgaiaaXK1
import Derived.Test.YtcefdpjlpjgaiaaXK11
import Derived.Test.YtcefdpjlpjgaiaaXK2
import Derived.Test.YtcefdpjlpjgaiaaXK3
import Derived.Test.YtcefdpjlpjgaiaaXK4
import Derived.Test.YtcefdpjlpjgaiaaXKHimplCompact
import Derived.Test.YtcefdpjlpjgaiaaXKHmarkForest
import Derived.Test.YtcefdpjlpjgaiaaXKHspecCompact
import Derived.Deep.RegionWith
import Derived.Test.YtcefdpjlpjgaiaaMarkXK
namespace Go.Proofs.Ytcefdpjlpjgaiaa.XK
open Go Go.RowKit Go.Proofs.YtcefdpjlpjgaiaaW.PrintWords Go.Proofs.YtcefdpjlpjgaiaaW.PrintLast Go.Proofs.YtcefdpjlpjgaiaaW.PrintMore
set_option linter.unusedVariables false
set_option linter.unusedSimpArgs false
open Go.Proofs.Ytcefdpjlpjgaiaa.XK (kx kx_S kx_M)
/-- What the walk asks: the functions' values, and that they agree. -/
structure laws_FnExactCompact.Good (k : Nat) (l0 : List S55) (l1 : List Int) (xs : List S58) (ys : List Int) (w0 : List S58) (w1 : List Int) (w2 : Int) (g0 : List S58) (g1 : List Int) (kk : Int) : Prop where
  toF : laws_toForest.f k l0 = some xs
  toI : laws_toIntS.f k l1 = some ys
  spec : spec_Compact.f k xs ys = some (w0, w1, w2)
  impl : impl_Compact.f k xs ys = some (g0, g1, w2)
  eF : laws_eqForest.f k g0 w0 = some true
  eI : laws_eqIntS.f k g1 w1 = some true
  xF : laws_eqForest.f k xs xs = some true
  xI : laws_eqIntS.f k ys ys = some true
  kF : laws_markForest.f k xs 1 = some kk
  k0 : 0 ≤ kk
  kI : kk + (ys.length : Int) ≤ 4611686018427387904
  mF : MX.at_ 1 g0 g0.length + (g1.length : Int) ≤ 4611686018427387904
  mL : g0.length ≤ 1099511627776
  hF : laws_heldForest.f k (MX.mk 1 g0) 1 = some (MX.at_ 1 g0 g0.length)
  hI : laws_heldIntS.f k (MX.ints (MX.at_ 1 g0 g0.length) g1.length) (MX.at_ 1 g0 g0.length) = some (MX.at_ 1 g0 g0.length + (g1.length : Int))
def laws_FnExactCompact.Fit (k : Nat) (l0 : List S55) (l1 : List Int) : Prop :=
  (1048576 : Int) < (l1.length : Int) ∨ (¬ (1048576 : Int) < (l1.length : Int) ∧ ∃ t, laws_szForest.f k l0 1048576 = some t ∧ (t < 0 ∨ (0 ≤ t ∧ ∃ xs ys w0 w1 w2 g0 g1 kk, laws_FnExactCompact.Good k l0 l1 xs ys w0 w1 w2 g0 g1 kk)))
open Classical in
noncomputable def laws_FnExactCompact.f (k : Nat) (l0 : List S55) (l1 : List Int) : Option Bool := if laws_FnExactCompact.Fit k l0 l1 then some true else none
/-- The argument and what is wanted: all of it lies below N. -/
structure laws_FnExactCompact.Wd (w : World) (cs2 : Array Value) (gb2 gb6 : Nat) (v0 v1 : Value) (w0 : List S58) (w1 : List Int) (N : Nat) (W : World) : Prop where
  b2 : W.heap[gb2]? = some (.cells cs2 24 (0, 0))
  b6 : W.heap[gb6]? = some (.cells #[v0] 31 (0, 0))
  s0 : Kd.S k58 58 W w.heap.size (fun k => k < N) v0 w0
  s1 : (Kd.int .i64).R 3 W w.heap.size (fun k => k < N) v1 w1
  l2 : gb2 < N
  l6 : gb6 < N
  lN : N ≤ W.heap.size
  wN : w.heap.size ≤ N
  d : Below w.heap.size w W
/-- The results: all of it lies from N on. -/
structure laws_FnExactCompact.Gt (gb11 : Nat) (v0 v1 : Value) (g0 : List S58) (g1 : List Int) (N : Nat) (W : World) : Prop where
  b11 : W.heap[gb11]? = some (.cells #[v0] 31 (0, 0))
  s0 : Kd.S kx 58 W N (fun k => some k ≠ v1.ownBlock) v0 g0
  s1 : (Kd.int .i64).R 3 W N (fun _ => True) v1 g1
  l11 : N ≤ gb11
  lN : N ≤ W.heap.size
/-- The copies that are handed over. -/
structure laws_FnExactCompact.Ex (gb9 : Nat) (v0 v1 : Value) (xs : List S58) (ys : List Int) (N1 N2 N3 : Nat) (W : World) : Prop where
  b9 : W.heap[gb9]? = some (.cells #[v0] 31 (0, 0))
  s0 : Kd.S k58 58 W N1 (fun k => k < N2) v0 xs
  s1 : (Kd.int .i64).R 3 W N2 (fun k => k < N3) v1 ys
  l1 : N1 ≤ N2
  l2 : N2 ≤ N3
  l3 : N3 ≤ W.heap.size
theorem laws_FnExactCompact.Ex.below {gb9 : Nat} {v0 v1 : Value} {xs : List S58} {ys : List Int} {N1 N2 N3 : Nat} {W W' : World} (H : laws_FnExactCompact.Ex gb9 v0 v1 xs ys N1 N2 N3 W) (h : Below W.heap.size W W') : laws_FnExactCompact.Ex gb9 v0 v1 xs ys N1 N2 N3 W' :=
  ⟨blk_below H.b9 h, Kd.S_below H.s0 h, Kd.R_below H.s1 h, H.l1, H.l2, Nat.le_trans H.l3 h.size⟩
section
variable {w W W' : World} {cs2 : Array Value} {gb2 gb6 gb11 N : Nat} {v0 v1 : Value} {w0 g0 : List S58} {w1 g1 : List Int} {S : Nat → Prop}
theorem laws_FnExactCompact.Wd.kept (H : laws_FnExactCompact.Wd w cs2 gb2 gb6 v0 v1 w0 w1 N W) (h : Kept W W' S) (hS : ∀ k, S k → N ≤ k) (hb : Below N W W') : laws_FnExactCompact.Wd w cs2 gb2 gb6 v0 v1 w0 w1 N W' := by
  have hk : ∀ k, k < N → W'.heap[k]? = W.heap[k]? := fun k hl => h.2 k (Nat.lt_of_lt_of_le hl H.lN) (fun hs => Nat.lt_irrefl _ (Nat.lt_of_lt_of_le hl (hS k hs)))
  exact ⟨(hk _ H.l2).trans H.b2, (hk _ H.l6).trans H.b6, Kd.S_move H.s0 hk, Kd.R_move H.s1 hk, H.l2, H.l6, Nat.le_trans H.lN h.1, H.wN, H.d.trans (hb.mono H.wN)⟩
theorem laws_FnExactCompact.Wd.below (H : laws_FnExactCompact.Wd w cs2 gb2 gb6 v0 v1 w0 w1 N W) (h : Below W.heap.size W W') : laws_FnExactCompact.Wd w cs2 gb2 gb6 v0 v1 w0 w1 N W' := H.kept (Kept.of_below h (fun _ => False)) (fun _ hk => hk.elim) (h.mono H.lN)
theorem laws_FnExactCompact.Gt.kept (H : laws_FnExactCompact.Gt gb11 v0 v1 g0 g1 N W) (h : Kept W W' S) (hS : ∀ k, S k → k < N) : laws_FnExactCompact.Gt gb11 v0 v1 g0 g1 N W' := by
  have hk : ∀ k, N ≤ k → k < W.heap.size → W'.heap[k]? = W.heap[k]? := fun k hl hw => h.2 k hw (fun hs => Nat.lt_irrefl _ (Nat.lt_of_lt_of_le (hS k hs) hl))
  exact ⟨(hk _ H.l11 (blk_lt H.b11)).trans H.b11, Kd.S_mono (Kd.S_step (Kd.S_bound H.s0) (fun k h1 h2 => hk k h1.2.1 h2)) (fun k h1 => h1.1), Kd.R_mono (Kd.R_step (Kd.R_bound H.s1) (fun k h1 h2 => hk k h1.2.1 h2)) (fun k h1 => h1.1), H.l11, Nat.le_trans H.lN h.1⟩
theorem laws_FnExactCompact.Gt.below (H : laws_FnExactCompact.Gt gb11 v0 v1 g0 g1 N W) (h : Below W.heap.size W W') : laws_FnExactCompact.Gt gb11 v0 v1 g0 g1 N W' := H.kept (Kept.of_below h (fun _ => False)) (fun _ hk => hk.elim)
/-- The nodes are marked. -/
theorem laws_FnExactCompact.Gt.mark0 (H : laws_FnExactCompact.Gt gb11 v0 v1 g0 g1 N W) (a : Int) (h0 : 0 ≤ a) (h1 : MX.at_ a g0 g0.length ≤ 4611686018427387904) (h2 : g0.length ≤ 1099511627776) :
    Calls Try.prog 12 #[.agg #[v0], .int .i64 a] W fun e W' => e = .returned (.int .i64 (MX.at_ a g0 g0.length)) ∧ laws_FnExactCompact.Gt gb11 v0 v1 (MX.mk a g0) g1 N W' ∧ Below N W W' ∧ Kept W W' (fun k => N ≤ k) := by
  refine (MX.mf N _ v0 g0 a W (Kd.S_bound H.s0) (fun k hk => ⟨hk.2.1, hk.2.2.1⟩) h0 h1 h2 H.lN).mono ?_
  rintro e W' ⟨rfl, hs, hb, hk⟩
  refine ⟨rfl, ⟨blk_kept H.b11 hk (fun h => ?_), Kd.S_mono hs (fun k hk => hk.1), ?_, H.l11, Nat.le_trans H.lN hk.1⟩, hb, hk.1, fun i hi hn => hk.2 i hi (fun h => hn h.2.1)⟩
  · obtain ⟨_, _, _, q, hq, cells, hc⟩ := h
    rw [H.b11] at hc
    injection hc with hc
    injection hc with _ hc
    subst hc
    exact absurd hq (by decide)
  · exact Kd.R_mono (Kd.R_step (Kd.R_tight2 rfl H.s1) (fun k h1 h2 => hk.2 k h2 (fun h3 => h3.1 h1.1))) (fun _ _ => trivial)
/-- The numbers are marked. -/
theorem laws_FnExactCompact.Gt.mark1 (H : laws_FnExactCompact.Gt gb11 v0 v1 g0 g1 N W) (a : Int) (h0 : 0 ≤ a) (h1 : a + (g1.length : Int) ≤ 4611686018427387904) :
    Calls Try.prog 13 #[v1, .int .i64 a] W fun e W' => e = .returned (.int .i64 (a + (g1.length : Int))) ∧ laws_FnExactCompact.Gt gb11 v0 v1 g0 (MX.ints a g1.length) N W' ∧ Below N W W' ∧ Kept W W' (fun k => N ≤ k) := by
  refine (MX.mi N _ v1 g1 a W H.s1 h0 h1 H.lN).mono ?_
  rintro e W' ⟨rfl, hs, hb, hk⟩
  refine ⟨rfl, ⟨blk_kept H.b11 hk (fun h => Kd.R_ne H.s1 H.b11 (by decide) h), ?_, hs, H.l11, Nat.le_trans H.lN hk.1⟩, hb, hk.1, fun i hi hn => hk.2 i hi (fun h => hn (Kd.R_base H.s1 i h.symm))⟩
  exact Kd.S_step H.s0 (fun k h1 h2 => hk.2 k h2 h1)
end
theorem laws_FnExactCompact.at_ge (xs : List S58) (i : Nat) : 1 ≤ MX.at_ 1 xs i := by unfold MX.at_; omega
set_option maxHeartbeats 8000000 in
set_option maxRecDepth 100000 in
theorem laws_FnExactCompact.calls (k : Nat) (A0_0 : Option Addr) (c0_0 : Nat) (l0_0 : List (S55)) (A1 : Option Addr) (c1 : Nat) (l1 : List Int) (r : Bool) (w : World) (hr0_0 : Kd.C k55 w A0_0 l0_0.length l0_0) (hc0_0 : l0_0.length ≤ c0_0) (hr1 : Kd.C (Kd.int .i64) w A1 l1.length l1) (hc1 : l1.length ≤ c1) (h : laws_FnExactCompact.f k l0_0 l1 = some r) :
    Calls Try.prog 4 #[.agg #[.slice A0_0 l0_0.length c0_0], .slice A1 l1.length c1] w fun e w' => e = .returned (.bool r) ∧ Below w.heap.size w w' := by
  have hu31 := Try.underlying31
  have hu24 := Try.underlying24
  obtain ⟨hfit, hr_⟩ := Option.ite_none_right_eq_some.1 h
  obtain rfl := Option.some.inj hr_
  clear h hr_
  have HR0 := Aside0.mk hr0_0
  have HC0 := Aside0.mk hc0_0
  have HR1 := Aside0.mk hr1
  have HC1 := Aside0.mk hc1
  have D1 : Aside0 (Below w.heap.size w (w.alloc (.cells #[.slice A0_0 l0_0.length c0_0] 24))) := ⟨below_alloc (Below.refl _ _) _⟩
  have X1 : Aside0 ((w.alloc (.cells #[.slice A0_0 l0_0.length c0_0] 24)).heap[w.heap.size]? = some (.cells #[.slice A0_0 l0_0.length c0_0] 24 (0, 0))) := ⟨blk_new _ _⟩
  clear hr0_0 hc0_0 hr1 hc1
  go_enter Try.func4, Try.ntmps4
  go_upto_region 1 with (fail)
  generalize w.alloc (.cells #[.slice A0_0 l0_0.length c0_0] 24) = W1 at D1 X1 ⊢
  obtain ⟨gb2, hgb2⟩ : ∃ gb2, gb2 = w.heap.size := ⟨_, rfl⟩
  rw [show (Value.pointer (some ⟨w.heap.size, 0, none⟩)) = .pointer (some ⟨gb2, 0, none⟩) by rw [hgb2]]
  rw [← hgb2] at X1
  clear hgb2
  rcases hfit with hbig | ⟨hsm, t, hsz, hrest⟩
  · have cc : decide ((1048576 : Int) < (l1.length : Int)) = true := decide_eq_true hbig
    have cc2 : decide ((l1.length : Int) > 1048576) = true := decide_eq_true hbig
    clear hbig
    go_wp2
    go_ret
    exact ⟨rfl, D1.out⟩
  have cc : decide ((1048576 : Int) < (l1.length : Int)) = false := decide_eq_false hsm
  have cc2 : decide ((l1.length : Int) > 1048576) = false := decide_eq_false hsm
  have hz2 : W1.cell? ⟨gb2, 0, none⟩ = some (.slice A0_0 l0_0.length c0_0) := (blk_cell X1.out 0).trans rfl
  clear hsm
  go_upto_region 5 with (go_at_call 5; (with_reducible refine (laws_szForest.calls k A0_0 c0_0 l0_0 1048576 t _ (Kd.C_below HR0.out D1.out) HC0.out hsz).mono ?_); rintro e W2 ⟨rfl, hb⟩; have D2 := Aside0.mk (below_step D1.out hb); have X2 := Aside0.mk (blk_below X1.out hb); clear hb)
  clear hz2 X1 D1 cc cc2 hsz
  rcases hrest with ht | ⟨ht, xs, ys, w0, w1, w2, g0, g1, kk, hG⟩
  · have ct : decide (t < 0) = true := decide_eq_true ht
    clear ht
    go_wp2
    go_ret
    exact ⟨rfl, D2.out⟩
  have ct : decide (t < 0) = false := decide_eq_false (by omega)
  have G := Aside0.mk hG
  have hz2 : W2.cell? ⟨gb2, 0, none⟩ = some (.slice A0_0 l0_0.length c0_0) := (blk_cell X2.out 0).trans rfl
  clear hG ht
  go_upto_region 8 with (first
    | (go_at_call 7; (with_reducible refine (laws_toForest.calls k A0_0 c0_0 l0_0 xs _ (Kd.C_below HR0.out D2.out) HC0.out G.out.toF).mono ?_); rintro e W3 ⟨va, rfl, hs, hb⟩; obtain ⟨Aa, ca, ea⟩ := Kd.S_slice hs; subst ea; have SA := Aside0.mk hs; have D3 := Aside0.mk (below_step D2.out hb); have X3 := Aside0.mk (blk_below X2.out hb); clear hs hb)
    | (go_at_call 8; (with_reducible refine (laws_toIntS.calls k A1 c1 l1 ys _ (Kd.C_below HR1.out D3.out) HC1.out G.out.toI).mono ?_); rintro e W4 ⟨vb, rfl, hs, hb⟩; obtain ⟨Ab, cb, eb⟩ := Kd.R_slice hs; subst eb; have SB := Aside0.mk hs; have SA4 := Aside0.mk (Kd.S_below SA.out hb); have D4 := Aside0.mk (below_step D3.out hb); have X4 := Aside0.mk (blk_below X3.out hb); clear hs hb)
    | (go_at_call 15; (with_reducible refine (spec_Compact.calls k Aa ca xs Ab cb ys w0 w1 w2 _ (Kd.S_reads' SA4.out).2.2 (Kd.S_reads' SA4.out).2.1 (Kd.R_reads' SB.out).2.2 (Kd.R_reads' SB.out).2.1 G.out.spec).mono ?_); rintro e W5 ⟨vw0, vw1, rfl, hs, hr, hb⟩; obtain ⟨Aw0, cw0, ew0⟩ := Kd.S_slice hs; obtain ⟨Aw1, cw1, ew1⟩ := Kd.R_slice hr; subst ew0 ew1; have SW0 := Aside0.mk (Kd.S_lower hs D4.out.size); have SW1 := Aside0.mk (Kd.R_lower hr D4.out.size); have D5 := Aside0.mk (below_step D4.out hb); have X5 := Aside0.mk (blk_below X4.out hb); clear hs hr hb))
  have hgb6 := blk_new W5 (.cells #[.slice Aw0 w0.length cw0] 31)
  have WD : Aside0 (laws_FnExactCompact.Wd w #[.slice A0_0 l0_0.length c0_0] gb2 W5.heap.size (.slice Aw0 w0.length cw0) (.slice Aw1 w1.length cw1) w0 w1 (W5.alloc (.cells #[.slice Aw0 w0.length cw0] 31)).heap.size (W5.alloc (.cells #[.slice Aw0 w0.length cw0] 31))) :=
    ⟨⟨blk_alloc X5.out _, hgb6, Kd.S_mono (Kd.S_bound (Kd.S_alloc SW0.out _)) (fun k hk => hk.2.2.1), Kd.R_mono (Kd.R_bound (Kd.R_alloc SW1.out _)) (fun k hk => hk.2.2.1), blk_lt (blk_alloc X5.out _), blk_lt hgb6, Nat.le_refl _, (below_alloc D5.out _).size, below_alloc D5.out _⟩⟩
  clear hgb6 SW0 SW1 SA SA4 SB D2 D3 D4 D5 X2 X3 X4 X5 hz2
  generalize W5.alloc (.cells #[.slice Aw0 w0.length cw0] 31) = W6 at WD ⊢
  generalize W5.heap.size = gb6 at WD ⊢
  have hz2 : W6.cell? ⟨gb2, 0, none⟩ = some (.slice A0_0 l0_0.length c0_0) := (blk_cell WD.out.b2 0).trans rfl
  go_upto_region 9 with (go_at_call 7; (with_reducible refine (laws_toForest.calls k A0_0 c0_0 l0_0 xs _ (Kd.C_below HR0.out WD.out.d) HC0.out G.out.toF).mono ?_); rintro e W7 ⟨va, rfl, hs, hb⟩; obtain ⟨Aa, ca, ea⟩ := Kd.S_slice hs; subst ea; have SA := Aside0.mk hs; have WD7 := Aside0.mk (WD.out.below hb); have B7 := Aside0.mk hb; clear hs hb)
  have h9 := blk_new W7 (.cells #[.slice Aa xs.length ca] 31)
  have SA8 : Aside0 (Kd.S k58 58 (W7.alloc (.cells #[.slice Aa xs.length ca] 31)) W6.heap.size (fun k => k < (W7.alloc (.cells #[.slice Aa xs.length ca] 31)).heap.size) (.slice Aa xs.length ca) xs) := ⟨Kd.S_mono (Kd.S_bound (Kd.S_alloc SA.out _)) (fun k hk => hk.2.2.1)⟩
  have WD8 := Aside0.mk (WD7.out.below (below_alloc (Below.refl _ _) (.cells #[.slice Aa xs.length ca] 31)))
  have L68 : Aside0 (W6.heap.size ≤ (W7.alloc (.cells #[.slice Aa xs.length ca] 31)).heap.size) := ⟨Nat.le_trans B7.out.size (by rw [World.size_alloc]; exact Nat.le_succ _)⟩
  have H9 := Aside0.mk h9
  clear h9 SA WD7 WD hz2 B7
  generalize W7.alloc (.cells #[.slice Aa xs.length ca] 31) = W8 at SA8 WD8 L68 H9 ⊢
  generalize W7.heap.size = gb9 at H9 ⊢
  generalize W6.heap.size = N1 at SA8 WD8 L68 ⊢
  go_upto_region 10 with (go_at_call 8; (with_reducible refine (laws_toIntS.calls k A1 c1 l1 ys _ (Kd.C_below HR1.out WD8.out.d) HC1.out G.out.toI).mono ?_); rintro e W9 ⟨vb, rfl, hs, hb⟩; obtain ⟨Ab, cb, eb⟩ := Kd.R_slice hs; subst eb; have WD9 := Aside0.mk (WD8.out.below hb); have EX9 : Aside0 (laws_FnExactCompact.Ex gb9 (.slice Aa xs.length ca) (.slice Ab ys.length cb) xs ys N1 W8.heap.size W9.heap.size W9) := ⟨⟨blk_below H9.out hb, Kd.S_below SA8.out hb, Kd.R_mono (Kd.R_bound hs) (fun k hk => hk.2.2.1), L68.out, hb.size, Nat.le_refl _⟩⟩; clear hs hb)
  clear SA8 WD8 L68 H9
  generalize W8.heap.size = N2 at EX9 ⊢
  have hz9 : W9.cell? ⟨gb9, 0, none⟩ = some (.slice Aa xs.length ca) := (blk_cell EX9.out.b9 0).trans rfl
  go_upto_region 11 with (go_at_call 16; (with_reducible refine (impl_Compact.calls k Aa ca xs Ab cb ys g0 g1 w2 _ (Kd.S_reads' EX9.out.s0).2.2 (Kd.S_reads' EX9.out.s0).2.1 (Kd.R_reads' EX9.out.s1).2.2 (Kd.R_reads' EX9.out.s1).2.1 G.out.impl).mono ?_); rintro e W10 ⟨vg0, vg1, rfl, hs, hr, hb⟩; obtain ⟨Ag0, cg0, eg0⟩ := Kd.S_slice hs; obtain ⟨Ag1, cg1, eg1⟩ := Kd.R_slice hr; subst eg0 eg1; have SG0 := Aside0.mk hs; have SG1 := Aside0.mk hr; have B10 := Aside0.mk hb; clear hs hr hb)
  have hb11 := blk_new W10 (.cells #[.slice Ag0 g0.length cg0] 31)
  have ba := below_alloc (Below.refl W10.heap.size W10) (.cells #[.slice Ag0 g0.length cg0] 31)
  have B11 : Aside0 (Below W9.heap.size W9 (W10.alloc (.cells #[.slice Ag0 g0.length cg0] 31))) := ⟨B10.out.trans (ba.mono B10.out.size)⟩
  have GT : Aside0 (laws_FnExactCompact.Gt W10.heap.size (.slice Ag0 g0.length cg0) (.slice Ag1 g1.length cg1) g0 g1 W9.heap.size (W10.alloc (.cells #[.slice Ag0 g0.length cg0] 31))) := ⟨⟨hb11, Kd.S_alloc SG0.out _, Kd.R_alloc SG1.out _, B10.out.size, B11.out.size⟩⟩
  have WD := Aside0.mk (WD9.out.below B11.out)
  have EX := Aside0.mk (EX9.out.below B11.out)
  clear hb11 ba B10 B11 SG0 SG1 WD9 EX9 hz9
  generalize W10.alloc (.cells #[.slice Ag0 g0.length cg0] 31) = W11 at GT WD EX ⊢
  generalize W10.heap.size = gb11 at GT ⊢
  generalize W9.heap.size = N3 at GT EX ⊢
  have PF : Aside0 (∀ (W : World) (n : Nat), laws_FnExactCompact.Wd w #[.slice A0_0 l0_0.length c0_0] gb2 gb6 (.slice Aw0 w0.length cw0) (.slice Aw1 w1.length cw1) w0 w1 N1 W → laws_FnExactCompact.Gt gb11 (.slice Ag0 g0.length cg0) (.slice Ag1 g1.length cg1) g0 g1 N3 W →
      Calls Try.prog 11 #[.agg #[.slice Ag0 g0.length cg0], .agg #[.slice Aw0 w0.length cw0]] W fun e w' => e = .returned (.bool true) ∧ Below W.heap.size W w') := ⟨fun W n hw hg => laws_eqForest.calls k Ag0 cg0 g0 Aw0 cw0 w0 true W (Kd.S_reads' (kx_S hg.s0)).2.2 (Kd.S_reads' (kx_S hg.s0)).2.1 (Kd.S_reads' hw.s0).2.2 (Kd.S_reads' hw.s0).2.1 G.out.eF⟩
  have PI : Aside0 (∀ (W : World) (n : Nat), laws_FnExactCompact.Wd w #[.slice A0_0 l0_0.length c0_0] gb2 gb6 (.slice Aw0 w0.length cw0) (.slice Aw1 w1.length cw1) w0 w1 N1 W → laws_FnExactCompact.Gt gb11 (.slice Ag0 g0.length cg0) (.slice Ag1 g1.length cg1) g0 g1 N3 W →
      Calls Try.prog 10 #[.slice Ag1 g1.length cg1, .slice Aw1 w1.length cw1] W fun e w' => e = .returned (.bool true) ∧ Drawn0 W w') := ⟨fun W n hw hg => laws_eqIntS.calls k Ag1 cg1 g1 Aw1 cw1 w1 true W (Kd.R_reads' hg.s1).2.2 (Kd.R_reads' hg.s1).2.1 (Kd.R_reads' hw.s1).2.2 (Kd.R_reads' hw.s1).2.1 G.out.eI⟩
  have hz11 : W11.cell? ⟨gb11, 0, none⟩ = some (.slice Ag0 g0.length cg0) := (blk_cell GT.out.b11 0).trans rfl
  have hz6 : W11.cell? ⟨gb6, 0, none⟩ = some (.slice Aw0 w0.length cw0) := (blk_cell WD.out.b6 0).trans rfl
  go_upto_region 13 with (first
    | (go_at_call 11; (with_reducible refine (PF.out _ 0 WD.out GT.out).mono ?_); rintro e W12 ⟨rfl, hb⟩; have WD12 := Aside0.mk (WD.out.below hb); have GT12 := Aside0.mk (GT.out.below hb); have EX12 := Aside0.mk (EX.out.below hb); clear hb)
    | (go_at_call 10; (with_reducible refine (PI.out _ 0 WD12.out GT12.out).mono ?_); rintro e W13 ⟨rfl, hd⟩; have WD13 := Aside0.mk (WD12.out.below hd.below); have GT13 := Aside0.mk (GT12.out.below hd.below); have EX13 := Aside0.mk (EX12.out.below hd.below); clear hd))
  have hz2 : W13.cell? ⟨gb2, 0, none⟩ = some (.slice A0_0 l0_0.length c0_0) := (blk_cell WD13.out.b2 0).trans rfl
  have hz9 : W13.cell? ⟨gb9, 0, none⟩ = some (.slice Aa xs.length ca) := (blk_cell EX13.out.b9 0).trans rfl
  clear WD GT EX WD12 GT12 EX12 hz11 hz6
  go_cut [67] (fun s67 wx => s67 = .bool false ∧ Aside0 (Below W13.heap.size W13 wx))
  case first =>
    go_region_with (first
      | (go_at_call 7; (with_reducible refine (laws_toForest.calls k A0_0 c0_0 l0_0 xs _ ?c HC0.out G.out.toF).mono ?_); (case c => exact Kd.C_below HR0.out (below_step WD13.out.d (below_drew (Below.refl _ _)))); rintro e W14 ⟨va, rfl, hs, hb⟩; obtain ⟨Ax, cx, ex⟩ := Kd.S_slice hs; subst ex; have B14 := Aside0.mk (below_step (w := W13) (below_drew (Below.refl _ _)) hb); have SX := Aside0.mk hs; have EX14 := Aside0.mk (EX13.out.below B14.out); clear hs hb; have hz14 : W14.cell? ⟨gb9, 0, none⟩ = some (.slice Aa xs.length ca) := (blk_cell EX14.out.b9 0).trans rfl)
      | (go_at_call 11; (with_reducible refine (laws_eqForest.calls k Aa ca xs Ax cx xs true W14 (Kd.S_reads' EX14.out.s0).2.2 (Kd.S_reads' EX14.out.s0).2.1 (Kd.S_reads' SX.out).2.2 (Kd.S_reads' SX.out).2.1 G.out.xF).mono ?_); rintro e W15 ⟨rfl, hb⟩; have B15 := Aside0.mk (below_step B14.out hb); clear hb))
    all_goals (go_wp2_with fail; go_meet; exact ⟨rfl, B15⟩)
  case rest =>
    obtain ⟨rfl, BX⟩ := hcut
    have WD14 := Aside0.mk (WD13.out.below BX.out)
    have GT14 := Aside0.mk (GT13.out.below BX.out)
    have EX14 := Aside0.mk (EX13.out.below BX.out)
    clear WD13 GT13 EX13 BX hz2 hz9
    go_upto_region 17 with (first
      | (go_at_call 8; (with_reducible refine (laws_toIntS.calls k A1 c1 l1 ys _ (Kd.C_below HR1.out WD14.out.d) HC1.out G.out.toI).mono ?_); rintro e W15 ⟨va, rfl, hs, hb⟩; obtain ⟨Ax, cx, ex⟩ := Kd.R_slice hs; subst ex; have SX := Aside0.mk hs; have WD15 := Aside0.mk (WD14.out.below hb); have GT15 := Aside0.mk (GT14.out.below hb); have EX15 := Aside0.mk (EX14.out.below hb); clear hs hb)
      | (go_at_call 10; (with_reducible refine (laws_eqIntS.calls k Ab cb ys Ax cx ys true _ (Kd.R_reads' EX15.out.s1).2.2 (Kd.R_reads' EX15.out.s1).2.1 (Kd.R_reads' SX.out).2.2 (Kd.R_reads' SX.out).2.1 G.out.xI).mono ?_); rintro e W16 ⟨rfl, hd⟩; have WD16 := Aside0.mk (WD15.out.below hd.below); have GT16 := Aside0.mk (GT15.out.below hd.below); have EX16 := Aside0.mk (EX15.out.below hd.below); clear hd))
    clear WD14 GT14 EX14 WD15 GT15 EX15 SX
    have hz9 : W16.cell? ⟨gb9, 0, none⟩ = some (.slice Aa xs.length ca) := (blk_cell EX16.out.b9 0).trans rfl
    go_upto_region 19 with (go_at_call 12; (with_reducible refine (laws_markForest.calls k (.slice Aa xs.length ca) (fun k => k < N2) xs 1 kk N1 _ EX16.out.s0 (Nat.le_trans EX16.out.l1 (Nat.le_trans EX16.out.l2 EX16.out.l3)) G.out.kF).mono ?_); rintro e W17 ⟨rfl, hb, hk⟩; have WD17 := Aside0.mk (WD16.out.kept hk (fun k h => h.2.1) hb); have GT17 := Aside0.mk (GT16.out.kept hk (fun k h => Nat.lt_of_lt_of_le h.1 EX16.out.l2)); have SX17 := Aside0.mk (Kd.R_step (Kd.R_bound EX16.out.s1) (fun k h1 h2 => hk.2 k h2 (fun h3 => Nat.lt_irrefl _ (Nat.lt_of_lt_of_le h3.1 h1.2.1)))); have LX17 := Aside0.mk (Nat.le_trans (Nat.le_trans EX16.out.l2 EX16.out.l3) hk.1); clear hb hk)
    have LL : Aside0 (N1 ≤ N2 ∧ N2 ≤ N3) := ⟨⟨EX16.out.l1, EX16.out.l2⟩⟩
    have ck : decide (kk + (ys.length : Int) < 0) = false := decide_eq_false (by have := G.out.k0; omega)
    clear WD16 GT16 EX16 hz9
    go_upto_region 20 with (go_at_call 13; (with_reducible refine (MX.mi N2 _ (.slice Ab ys.length cb) ys kk _ SX17.out G.out.k0 G.out.kI LX17.out).mono ?_); rintro e W18 ⟨rfl, hs, hb, hk⟩; have WD18 := Aside0.mk (WD17.out.kept hk (fun k h => Nat.le_trans LL.out.1 (Kd.R_base SX17.out k h.symm)) (hb.mono LL.out.1)); have GT18 := Aside0.mk (GT17.out.kept hk (fun k h => (SX17.out.1 k h.symm).1)); clear hs hb hk)
    clear WD17 GT17 SX17 LX17
    have hz11 : W18.cell? ⟨gb11, 0, none⟩ = some (.slice Ag0 g0.length cg0) := (blk_cell GT18.out.b11 0).trans rfl
    have hz6 : W18.cell? ⟨gb6, 0, none⟩ = some (.slice Aw0 w0.length cw0) := (blk_cell WD18.out.b6 0).trans rfl
    go_upto_region 22 with (first
      | (go_at_call 11; (with_reducible refine (PF.out _ 0 WD18.out GT18.out).mono ?_); rintro e W19 ⟨rfl, hb⟩; have WD19 := Aside0.mk (WD18.out.below hb); have GT19 := Aside0.mk (GT18.out.below hb); clear hb)
      | (go_at_call 10; (with_reducible refine (PI.out _ 0 WD19.out GT19.out).mono ?_); rintro e W20 ⟨rfl, hd⟩; have WD20 := Aside0.mk (WD19.out.below hd.below); have GT20 := Aside0.mk (GT19.out.below hd.below); clear hd))
    clear WD18 GT18 WD19 GT19 hz11 hz6 ck PF PI
    obtain ⟨M1, hM1⟩ : ∃ M1, M1 = MX.at_ 1 g0 g0.length := ⟨_, rfl⟩
    obtain ⟨M2, hM2⟩ : ∃ M2, M2 = M1 + (g1.length : Int) := ⟨_, rfl⟩
    have m1p : 0 ≤ M1 := by rw [hM1]; exact Int.le_trans (by decide) (laws_FnExactCompact.at_ge g0 g0.length)
    have m2p : 0 ≤ M2 := by rw [hM2]; exact Int.add_nonneg m1p (Int.natCast_nonneg _)
    have m2b : M2 ≤ 4611686018427387904 := by rw [hM2, hM1]; exact G.out.mF
    have PM0 : Aside0 (∀ W, laws_FnExactCompact.Wd w #[.slice A0_0 l0_0.length c0_0] gb2 gb6 (.slice Aw0 w0.length cw0) (.slice Aw1 w1.length cw1) w0 w1 N1 W → laws_FnExactCompact.Gt gb11 (.slice Ag0 g0.length cg0) (.slice Ag1 g1.length cg1) g0 g1 N3 W → Calls Try.prog 12 #[.agg #[.slice Ag0 g0.length cg0], .int .i64 1] W fun e W' => e = .returned (.int .i64 M1) ∧ laws_FnExactCompact.Gt gb11 (.slice Ag0 g0.length cg0) (.slice Ag1 g1.length cg1) (MX.mk 1 g0) g1 N3 W' ∧ laws_FnExactCompact.Wd w #[.slice A0_0 l0_0.length c0_0] gb2 gb6 (.slice Aw0 w0.length cw0) (.slice Aw1 w1.length cw1) w0 w1 N1 W') := ⟨fun W hw hg => by
      refine (hg.mark0 1 (by decide) (by rw [← hM1]; exact Int.le_trans (by rw [hM2]; exact Int.le_add_of_nonneg_right (Int.natCast_nonneg _)) m2b) G.out.mL).mono ?_
      rintro e W' ⟨rfl, h1, hb, hk⟩
      exact ⟨by rw [hM1], h1, hw.kept hk (fun k h => Nat.le_trans LL.out.1 (Nat.le_trans LL.out.2 h)) (hb.mono (Nat.le_trans LL.out.1 LL.out.2))⟩⟩
    have PM1 : Aside0 (∀ W, laws_FnExactCompact.Wd w #[.slice A0_0 l0_0.length c0_0] gb2 gb6 (.slice Aw0 w0.length cw0) (.slice Aw1 w1.length cw1) w0 w1 N1 W → laws_FnExactCompact.Gt gb11 (.slice Ag0 g0.length cg0) (.slice Ag1 g1.length cg1) (MX.mk 1 g0) g1 N3 W → Calls Try.prog 13 #[.slice Ag1 g1.length cg1, .int .i64 M1] W fun e W' => e = .returned (.int .i64 M2) ∧ laws_FnExactCompact.Gt gb11 (.slice Ag0 g0.length cg0) (.slice Ag1 g1.length cg1) (MX.mk 1 g0) (MX.ints M1 g1.length) N3 W' ∧ laws_FnExactCompact.Wd w #[.slice A0_0 l0_0.length c0_0] gb2 gb6 (.slice Aw0 w0.length cw0) (.slice Aw1 w1.length cw1) w0 w1 N1 W') := ⟨fun W hw hg => by
      refine (hg.mark1 M1 m1p (by rw [← hM2]; exact m2b)).mono ?_
      rintro e W' ⟨rfl, h1, hb, hk⟩
      exact ⟨by rw [hM2], h1, hw.kept hk (fun k h => Nat.le_trans LL.out.1 (Nat.le_trans LL.out.2 h)) (hb.mono (Nat.le_trans LL.out.1 LL.out.2))⟩⟩
    have PH0 : Aside0 (∀ W, laws_FnExactCompact.Gt gb11 (.slice Ag0 g0.length cg0) (.slice Ag1 g1.length cg1) (MX.mk 1 g0) (MX.ints M1 g1.length) N3 W → Calls Try.prog 17 #[.agg #[.slice Ag0 g0.length cg0], .int .i64 1] W fun e W' => e = .returned (.int .i64 M1) ∧ Below W.heap.size W W') := ⟨fun W hg => by
      have h := laws_heldForest.calls k Ag0 cg0 (MX.mk 1 g0) 1 M1 W (Kd.S_reads' (kx_S hg.s0)).2.2 (by rw [MX.mk_len]; exact (Kd.S_reads' (kx_S hg.s0)).2.1) (by rw [hM1]; exact G.out.hF)
      rw [MX.mk_len] at h
      exact h⟩
    have PH1 : Aside0 (∀ W, laws_FnExactCompact.Gt gb11 (.slice Ag0 g0.length cg0) (.slice Ag1 g1.length cg1) (MX.mk 1 g0) (MX.ints M1 g1.length) N3 W → Calls Try.prog 14 #[.slice Ag1 g1.length cg1, .int .i64 M1] W fun e W' => e = .returned (.int .i64 M2) ∧ Drawn0 W W') := ⟨fun W hg => by
      have h := laws_heldIntS.calls k Ag1 cg1 (MX.ints M1 g1.length) M1 M2 W (Kd.R_reads' hg.s1).2.2 (by rw [MX.ints_len]; exact (Kd.R_reads' hg.s1).2.1) (by rw [hM2, hM1]; exact G.out.hI)
      rw [MX.ints_len] at h
      exact h⟩
    have cm1 : decide (M1 < 0) = false := decide_eq_false (by omega)
    have cm2 : decide (M2 < 0) = false := decide_eq_false (by omega)
    have cm3 : (M2 != M2) = false := bne_self_eq_false M2
    clear hM1 hM2 m1p m2p m2b
    have hz11 : W20.cell? ⟨gb11, 0, none⟩ = some (.slice Ag0 g0.length cg0) := (blk_cell GT20.out.b11 0).trans rfl
    go_upto_region 25 with (first
      | (go_at_call 12; (with_reducible refine (PM0.out _ WD20.out GT20.out).mono ?_); rintro e W21 ⟨rfl, hg, hw⟩; have WD21 := Aside0.mk hw; have GT21 := Aside0.mk hg; clear hg hw)
      | (go_at_call 13; (with_reducible refine (PM1.out _ WD21.out GT21.out).mono ?_); rintro e W22 ⟨rfl, hg, hw⟩; have WD22 := Aside0.mk hw; have GT22 := Aside0.mk hg; clear hg hw))
    clear WD20 GT20 WD21 GT21 hz11 PM0 PM1
    have hz11 : W22.cell? ⟨gb11, 0, none⟩ = some (.slice Ag0 g0.length cg0) := (blk_cell GT22.out.b11 0).trans rfl
    go_upto_region 32 with (first
      | (go_at_call 17; (with_reducible refine (PH0.out _ GT22.out).mono ?_); rintro e W23 ⟨rfl, hb⟩; have WD23 := Aside0.mk (WD22.out.below hb); have GT23 := Aside0.mk (GT22.out.below hb); clear hb)
      | (go_at_call 14; (with_reducible refine (PH1.out _ GT23.out).mono ?_); rintro e W24 ⟨rfl, hd⟩; have WD24 := Aside0.mk (WD23.out.below hd.below); have GT24 := Aside0.mk (GT23.out.below hd.below); clear hd))
    clear WD22 GT22 WD23 GT23 hz11
    have hz2 : W24.cell? ⟨gb2, 0, none⟩ = some (.slice A0_0 l0_0.length c0_0) := (blk_cell WD24.out.b2 0).trans rfl
    go_upto_region 35 with (first
      | (go_at_call 7; (with_reducible refine (laws_toForest.calls k A0_0 c0_0 l0_0 xs _ (Kd.C_below HR0.out WD24.out.d) HC0.out G.out.toF).mono ?_); rintro e W25 ⟨va, rfl, hs, hb⟩; obtain ⟨Ay, cy, ey⟩ := Kd.S_slice hs; subst ey; have SY := Aside0.mk hs; have WD25 := Aside0.mk (WD24.out.below hb); have GT25 := Aside0.mk (GT24.out.below hb); clear hs hb)
      | (go_at_call 8; (with_reducible refine (laws_toIntS.calls k A1 c1 l1 ys _ (Kd.C_below HR1.out WD25.out.d) HC1.out G.out.toI).mono ?_); rintro e W26 ⟨vb, rfl, hs, hb⟩; obtain ⟨Az, cz, ez⟩ := Kd.R_slice hs; subst ez; have SZ := Aside0.mk hs; have SY26 := Aside0.mk (Kd.S_below SY.out hb); have WD26 := Aside0.mk (WD25.out.below hb); have GT26 := Aside0.mk (GT25.out.below hb); clear hs hb)
      | (go_at_call 16; (with_reducible refine (impl_Compact.calls k Ay cy xs Az cz ys g0 g1 w2 _ (Kd.S_reads' SY26.out).2.2 (Kd.S_reads' SY26.out).2.1 (Kd.R_reads' SZ.out).2.2 (Kd.R_reads' SZ.out).2.1 G.out.impl).mono ?_); rintro e W27 ⟨vh0, vh1, rfl, hs, hr, hb⟩; obtain ⟨Ah0, ch0, eh0⟩ := Kd.S_slice hs; obtain ⟨Ah1, ch1, eh1⟩ := Kd.R_slice hr; subst eh0 eh1; have SH0 := Aside0.mk hs; have SH1 := Aside0.mk hr; have WD27 := Aside0.mk (WD26.out.below hb); have GT27 := Aside0.mk (GT26.out.below hb); clear hs hr hb))
    have hb17 := blk_new W27 (.cells #[.slice Ah0 g0.length ch0] 31)
    have ba := below_alloc (Below.refl W27.heap.size W27) (.cells #[.slice Ah0 g0.length ch0] 31)
    have WD28 := Aside0.mk (WD27.out.below ba)
    have GT28 := Aside0.mk (GT27.out.below ba)
    have SH28 := Aside0.mk (Kd.S_alloc SH0.out (.cells #[.slice Ah0 g0.length ch0] 31))
    have SI28 := Aside0.mk (Kd.R_alloc SH1.out (.cells #[.slice Ah0 g0.length ch0] 31))
    have H17 := Aside0.mk hb17
    clear hb17 ba WD24 GT24 WD25 GT25 WD26 GT26 WD27 GT27 SY SY26 SZ SH0 SH1 hz2
    generalize W27.alloc (.cells #[.slice Ah0 g0.length ch0] 31) = W28 at WD28 GT28 SH28 SI28 H17 ⊢
    generalize W27.heap.size = gb17 at H17 ⊢
    have hz17 : W28.cell? ⟨gb17, 0, none⟩ = some (.slice Ah0 g0.length ch0) := (blk_cell H17.out 0).trans rfl
    have hz6 : W28.cell? ⟨gb6, 0, none⟩ = some (.slice Aw0 w0.length cw0) := (blk_cell WD28.out.b6 0).trans rfl
    go_upto_region 37 with (first
      | (go_at_call 11; (with_reducible refine (laws_eqForest.calls k Ah0 ch0 g0 Aw0 cw0 w0 true _ (Kd.S_reads' (kx_S SH28.out)).2.2 (Kd.S_reads' (kx_S SH28.out)).2.1 (Kd.S_reads' WD28.out.s0).2.2 (Kd.S_reads' WD28.out.s0).2.1 G.out.eF).mono ?_); rintro e W29 ⟨rfl, hb⟩; have WD29 := Aside0.mk (WD28.out.below hb); have GT29 := Aside0.mk (GT28.out.below hb); have SI29 := Aside0.mk (Kd.R_below SI28.out hb); clear hb)
      | (go_at_call 10; (with_reducible refine (laws_eqIntS.calls k Ah1 ch1 g1 Aw1 cw1 w1 true _ (Kd.R_reads' SI29.out).2.2 (Kd.R_reads' SI29.out).2.1 (Kd.R_reads' WD29.out.s1).2.2 (Kd.R_reads' WD29.out.s1).2.1 G.out.eI).mono ?_); rintro e W30 ⟨rfl, hd⟩; have WD30 := Aside0.mk (WD29.out.below hd.below); have GT30 := Aside0.mk (GT29.out.below hd.below); clear hd))
    clear WD28 GT28 SH28 SI28 H17 hz17 hz6 WD29 GT29 SI29
    have hz11 : W30.cell? ⟨gb11, 0, none⟩ = some (.slice Ag0 g0.length cg0) := (blk_cell GT30.out.b11 0).trans rfl
    go_wp2_with (first
      | (go_at_call 17; (with_reducible refine (PH0.out _ GT30.out).mono ?_); rintro e W31 ⟨rfl, hb⟩; have WD31 := Aside0.mk (WD30.out.below hb); have GT31 := Aside0.mk (GT30.out.below hb); clear hb)
      | (go_at_call 14; (with_reducible refine (PH1.out _ GT31.out).mono ?_); rintro e W32 ⟨rfl, hd⟩; have WD32 := Aside0.mk (WD31.out.below hd.below); clear hd))
    go_ret
    exact ⟨rfl, WD32.out.d⟩

end Go.Proofs.Ytcefdpjlpjgaiaa.XK
