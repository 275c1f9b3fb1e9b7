-- Written for this claim: a contract of one function, proved by hand; the places of its template filled by a program.
import Derived.Test.YtcnkacbgcmnokaaXR0
import Derived.Test.YtcnkacbgcmnokaaXR1
import Derived.Test.YtcnkacbgcmnokaaXR2
import Derived.Test.YtcnkacbgcmnokaaXR3
import Derived.Test.YtcnkacbgcmnokaaXR4
import Derived.Test.YtcnkacbgcmnokaaXR6
import Derived.Test.YtcnkacbgcmnokaaXR7
import Derived.Test.YtcnkacbgcmnokaaXR8
import Derived.Test.YtcnkacbgcmnokaaXRHCloneInt
import Derived.Test.YtcnkacbgcmnokaaRunv
namespace Go.Proofs.Ytcnkacbgcmnokaa.XR
open Go Go.RowKit Go.Proofs.YtcnkacbgcmnokaaW.PrintWords Go.Proofs.YtcnkacbgcmnokaaW.PrintLast Go.Proofs.YtcnkacbgcmnokaaW.PrintMore
set_option linter.unusedVariables false
set_option linter.unusedSimpArgs false
open Go.Proofs.Ytcnkacbgcmnokaa.XR.Room Go.Proofs.Ytcnkacbgcmnokaa.XR.Law Go.Proofs.Ytcnkacbgcmnokaa.XR.Fram
/-- What the walk asks: the functions' values, and that they agree. -/
structure laws_FnExactSpaceRun.Good (k : Nat) (total : Int) (l : List S27) (l2 : List S37) (r : Irun.Res) (kx : Int) (x2 : List S37) (m1 : Int) (n' : List Int) (h' : List S74) (p' : List Int) (m2 : Int) : Prop where
  toA : laws_toSpaceActS.f k l = some l2
  spec : Irun.run spec_NewSpace.f (fun T o a => Sstp.f k T o.E o.now o.held o.pins a.f0 a.f1) total l2 = some r
  impl : Irun.run impl_NewSpace.f (fun T o a => Act.f k T o.E o.now o.held o.pins a.f0 a.f1) total l2 = some r
  hl : r.o.now.length ≤ 1048576 ∧ r.o.held.length ≤ 1048576 ∧ r.o.pins.length ≤ 1048576
  eqS : laws_eqSpace.f k r.T r.o.E r.o.now r.o.held r.o.pins r.T r.o.E r.o.now r.o.held r.o.pins = some true
  eqR : laws_eqSpaceReplyS.f k r.rs r.rs = some true
  eqX : laws_eqSpaceActS.f k l2 l2 = some true
  mX : laws_markSpaceActS.f k l2 1 = some (kx, x2)
  kx0 : 0 ≤ kx
  mG : laws_markSpace.f k r.T r.o.E r.o.now r.o.held r.o.pins 1 = some (m1, n', h', p')
  m10 : 0 ≤ m1
  mR : m2 = MX.at_ m1 r.rs r.rs.length
  mb : m2 ≤ 4611686018427387904
  ml : r.rs.length ≤ 1099511627776
  hG : laws_heldSpace.f k r.T r.o.E n' h' p' 1 = some m1
  hR : laws_heldSpaceReplyS.f k (MX.mk m1 r.rs) m1 = some m2
  m20 : 0 ≤ m2
def laws_FnExactSpaceRun.Fit (k : Nat) (total : Int) (l : List S27) : Prop :=
  ∃ t, laws_szSpaceActS.f l 1048576 = some t ∧ (t < 0 ∨ (0 ≤ t ∧ ∃ l2 r kx x2 m1 n' h' p' m2, laws_FnExactSpaceRun.Good k total l l2 r kx x2 m1 n' h' p' m2))
open Classical in
noncomputable def laws_FnExactSpaceRun.f (k : Nat) (total : Int) (l : List S27) : Option Bool := if laws_FnExactSpaceRun.Fit k total l then some true else none
set_option maxHeartbeats 8000000 in
set_option maxRecDepth 100000 in
theorem laws_FnExactSpaceRun.calls (k : Nat) (a0 : Int) (A1 : Option Addr) (c1 : Nat) (l1 : List (S27)) (r : Bool) (w : World) (hr1 : Kd.C k27 w A1 l1.length l1) (hc1 : l1.length ≤ c1) (h : laws_FnExactSpaceRun.f k a0 l1 = some r) :
    Calls Try.prog 4 #[.int .i64 a0, .slice A1 l1.length c1] w fun e w' => e = .returned (.bool r) ∧ Below w.heap.size w w' := by
  have hu31 := Try.underlying31
  obtain ⟨hfit, hr_⟩ := Option.ite_none_right_eq_some.1 h
  obtain rfl := Option.some.inj hr_
  clear h hr_
  have HR := Aside0.mk hr1
  have HC := Aside0.mk hc1
  clear hr1 hc1
  obtain ⟨t, hsz, hrest⟩ := hfit
  have SZ := Aside0.mk hsz
  clear hsz
  go_enter Try.func4, Try.ntmps4
  go_upto_region 3 with (go_at_call 16; (with_reducible refine (laws_szSpaceActS.calls A1 c1 l1 1048576 t w HR.out HC.out SZ.out).mono ?_); rintro e W1 ⟨rfl, hD⟩; have D1 := Aside0.mk (hD.below : Below w.heap.size w W1); clear hD)
  clear SZ
  rcases hrest with ht | ⟨ht, l2, r, kx, x2, m1, n', h', p', m2, hG⟩
  · have ct : decide (t < 0) = true := decide_eq_true ht
    clear ht
    go_wp2
    go_ret
    exact ⟨rfl, D1.out⟩
  have ct : decide (t < 0) = false := decide_eq_false (by omega)
  have G := Aside0.mk hG
  clear hG ht
  have TA : Aside0 (∀ W, Below w.heap.size w W → Calls Try.prog 18 #[.slice A1 l1.length c1] W fun e W' => ∃ B d, e = .returned (.slice B l2.length d) ∧ k37.R 37 W' W.heap.size (fun _ => True) (.slice B l2.length d) l2 ∧ Below W.heap.size W W') := ⟨fun W d => by
    refine (laws_toSpaceActS.calls k A1 c1 l1 l2 W (Kd.C_below HR.out d) HC.out G.out.toA).mono ?_
    rintro e W' ⟨v, rfl, hr, hB⟩
    obtain ⟨B, q, rfl⟩ := Kd.R_slice hr
    exact ⟨B, q, rfl, hr, hB⟩⟩
  go_upto_region 6 with (first
    | (go_at_call 18; (with_reducible refine (TA.out _ D1.out).mono ?_); rintro e W2 ⟨B2, d2, rfl, hr, hB⟩; have A2 := Aside0.mk hr; have D2 := Aside0.mk (below_step D1.out hB); clear hr hB)
    | (go_at_call 17; (with_reducible refine (Srun.calls k a0 B2 d2 l2 r W2 (Kd.R_reads' A2.out).2.2 (Kd.R_reads' A2.out).2.1 G.out.spec G.out.hl).mono ?_); rintro e W3 ⟨v2, v3, v4, v5, rfl, ht, hr, hB⟩; have T3 := Aside0.mk ht; have R3 := Aside0.mk hr; have D3 := Aside0.mk (below_step D2.out hB); clear ht hr hB; obtain ⟨X2, q2, e2⟩ := Kd.R_slice T3.out.n; obtain ⟨X3, q3, e3⟩ := Kd.R_slice T3.out.h; obtain ⟨X4, q4, e4⟩ := Kd.R_slice T3.out.p; generalize List.length _ = j2 at e2; generalize List.length _ = j3 at e3; generalize List.length _ = j4 at e4; subst e2 e3 e4))
  have WD4 : Aside0 (Wd w W3.heap.size r.T r.o.E (.slice X2 j2 q2) (.slice X3 j3 q3) (.slice X4 j4 q4) r.o.now r.o.held r.o.pins v5 r.rs (W3.heap.size + 1) (W3.alloc (.cells #[.int .i64 r.T, .int .i64 r.o.E, .slice X2 j2 q2, .slice X3 j3 q3, .slice X4 j4 q4] 31))) := ⟨by
    have ha := below_alloc (Below.refl W3.heap.size W3) (.cells #[.int .i64 r.T, .int .i64 r.o.E, .slice X2 j2 q2, .slice X3 j3 q3, .slice X4 j4 q4] 31)
    have ho : Own 0 W3.heap.size (W3.alloc (.cells #[.int .i64 r.T, .int .i64 r.o.E, .slice X2 j2 q2, .slice X3 j3 q3, .slice X4 j4 q4] 31)) r.T r.o.E (.slice X2 j2 q2) (.slice X3 j3 q3) (.slice X4 j4 q4) r.o.now r.o.held r.o.pins := ⟨blk_new _ _, Nat.zero_le _, (T3.out.below ha).lower (Nat.zero_le _)⟩
    refine ⟨ho, Kd.R_mono (Kd.R_bound (Kd.R_lower (Kd.R_below R3.out ha) (Nat.zero_le _))) (fun k h => by have := h.2.2.1; rw [World.size_alloc] at this; exact this), fun k hk => by have := Own_lt ho k hk; rw [World.size_alloc] at this; exact this, Nat.le_succ_of_le D3.out.size, by rw [World.size_alloc]; exact Nat.le_refl _, below_step D3.out ha⟩⟩
  clear T3 R3 A2 D1 D2 D3 ct
  generalize W3.alloc (.cells #[.int .i64 r.T, .int .i64 r.o.E, .slice X2 j2 q2, .slice X3 j3 q3, .slice X4 j4 q4] 31) = W4 at WD4 ⊢
  obtain ⟨N4, hN4⟩ : ∃ N4, N4 = W3.heap.size + 1 := ⟨_, rfl⟩
  rw [← hN4] at WD4
  clear hN4
  generalize W3.heap.size = g6 at WD4 ⊢
  have WD5 : Aside0 (Wd w g6 r.T r.o.E (.slice X2 j2 q2) (.slice X3 j3 q3) (.slice X4 j4 q4) r.o.now r.o.held r.o.pins v5 r.rs W4.heap.size W4) := ⟨⟨WD4.out.o, Kd.R_mono WD4.out.r (fun k h => Nat.lt_of_lt_of_le h WD4.out.lN), fun k hk => Nat.lt_of_lt_of_le (WD4.out.u k hk) WD4.out.lN, WD4.out.d.size, Nat.le_refl _, WD4.out.d⟩⟩
  clear WD4
  obtain ⟨N5, hN5⟩ : ∃ N5, N5 = W4.heap.size := ⟨_, rfl⟩
  rw [← hN5] at WD5
  have HN := Aside0.mk hN5
  clear hN5
  go_upto_region 7 with (go_at_call 18; (with_reducible refine (TA.out _ WD5.out.d).mono ?_); rintro e W6 ⟨B2, d2, rfl, hr, hB⟩; have A6 := Aside0.mk hr; have WD6 := Aside0.mk (WD5.out.below hB); have S6 := Aside0.mk hB.size; clear hr hB)
  obtain ⟨M7, hM7⟩ : ∃ M7, M7 = W6.heap.size := ⟨_, rfl⟩
  have HM := Aside0.mk hM7
  have EX6 : Aside0 (k37.R 37 W6 N5 (fun k => k < M7) (.slice B2 l2.length d2) l2) := ⟨by rw [HN.out, HM.out]; exact Kd.R_mono (Kd.R_bound A6.out) (fun k h => h.2.2.1)⟩
  have LE : Aside0 (N5 ≤ M7) := ⟨by rw [HN.out, HM.out]; exact S6.out⟩
  clear hM7 A6 WD5 S6
  go_upto_region 8 with (go_at_call 19; (with_reducible refine (Irun.calls k a0 B2 d2 l2 r W6 (Kd.R_reads' EX6.out).2.2 (Kd.R_reads' EX6.out).2.1 G.out.impl).mono ?_); rintro e W7 ⟨y2, y3, y4, y5, rfl, ht, hr, hB⟩; have T7 := Aside0.mk ht; have R7 := Aside0.mk hr; have WD7 := Aside0.mk (WD6.out.below hB); have EX7 := Aside0.mk (Kd.R_below EX6.out hB); have S7 := Aside0.mk hB.size; clear ht hr hB; obtain ⟨Y2, p2, e2⟩ := Kd.R_slice T7.out.n; obtain ⟨Y3, p3, e3⟩ := Kd.R_slice T7.out.h; obtain ⟨Y4, p4, e4⟩ := Kd.R_slice T7.out.p; generalize List.length _ = i2 at e2; generalize List.length _ = i3 at e3; generalize List.length _ = i4 at e4; subst e2 e3 e4)
  have GT8 : Aside0 (Gt W7.heap.size r.T r.o.E (.slice Y2 i2 p2) (.slice Y3 i3 p3) (.slice Y4 i4 p4) r.o.now r.o.held r.o.pins y5 r.rs M7 (W7.alloc (.cells #[.int .i64 r.T, .int .i64 r.o.E, .slice Y2 i2 p2, .slice Y3 i3 p3, .slice Y4 i4 p4] 31))) := ⟨by
    have ha := below_alloc (Below.refl W7.heap.size W7) (.cells #[.int .i64 r.T, .int .i64 r.o.E, .slice Y2 i2 p2, .slice Y3 i3 p3, .slice Y4 i4 p4] 31)
    have hm : M7 ≤ W7.heap.size := by rw [HM.out]; exact S7.out
    refine ⟨⟨blk_new _ _, hm, by rw [HM.out]; exact T7.out.below ha⟩, ?_, Nat.le_trans hm ha.size⟩
    rw [HM.out]
    exact Kd.S_below (Kd.S_mono (Kd.S_bound R7.out) (fun k h => ⟨Nat.ne_of_lt h.2.2.1, h.1⟩)) ha⟩
  have WD8 := Aside0.mk (WD7.out.below (below_alloc (Below.refl _ _) (.cells #[.int .i64 r.T, .int .i64 r.o.E, .slice Y2 i2 p2, .slice Y3 i3 p3, .slice Y4 i4 p4] 31)))
  have EX8 := Aside0.mk (Kd.R_below EX7.out (below_alloc (Below.refl _ _) (.cells #[.int .i64 r.T, .int .i64 r.o.E, .slice Y2 i2 p2, .slice Y3 i3 p3, .slice Y4 i4 p4] 31)))
  clear T7 R7 WD6 WD7 EX6 EX7 S7 HM HN
  generalize W7.alloc (.cells #[.int .i64 r.T, .int .i64 r.o.E, .slice Y2 i2 p2, .slice Y3 i3 p3, .slice Y4 i4 p4] 31) = W8 at GT8 WD8 EX8 ⊢
  generalize W7.heap.size = g10 at GT8 ⊢
  have CW : Aside0 (∀ W, Wd w g6 r.T r.o.E (.slice X2 j2 q2) (.slice X3 j3 q3) (.slice X4 j4 q4) r.o.now r.o.held r.o.pins v5 r.rs N5 W → W.cell? ⟨g6, 0, none⟩ = some (.int .i64 r.T) ∧ W.cell? ⟨g6, 1, none⟩ = some (.int .i64 r.o.E) ∧ W.cell? ⟨g6, 2, none⟩ = some (.slice X2 j2 q2) ∧ W.cell? ⟨g6, 3, none⟩ = some (.slice X3 j3 q3) ∧ W.cell? ⟨g6, 4, none⟩ = some (.slice X4 j4 q4)) := ⟨fun W H => ⟨(blk_cell H.o.box 0).trans rfl, (blk_cell H.o.box 1).trans rfl, (blk_cell H.o.box 2).trans rfl, (blk_cell H.o.box 3).trans rfl, (blk_cell H.o.box 4).trans rfl⟩⟩
  have CG : Aside0 (∀ W z2 z3 z4 z5, Gt g10 r.T r.o.E (.slice Y2 i2 p2) (.slice Y3 i3 p3) (.slice Y4 i4 p4) z2 z3 z4 y5 z5 M7 W → W.cell? ⟨g10, 0, none⟩ = some (.int .i64 r.T) ∧ W.cell? ⟨g10, 1, none⟩ = some (.int .i64 r.o.E) ∧ W.cell? ⟨g10, 2, none⟩ = some (.slice Y2 i2 p2) ∧ W.cell? ⟨g10, 3, none⟩ = some (.slice Y3 i3 p3) ∧ W.cell? ⟨g10, 4, none⟩ = some (.slice Y4 i4 p4)) := ⟨fun W _ _ _ _ H => ⟨(blk_cell H.o.box 0).trans rfl, (blk_cell H.o.box 1).trans rfl, (blk_cell H.o.box 2).trans rfl, (blk_cell H.o.box 3).trans rfl, (blk_cell H.o.box 4).trans rfl⟩⟩
  have PS : Aside0 (∀ W, Wd w g6 r.T r.o.E (.slice X2 j2 q2) (.slice X3 j3 q3) (.slice X4 j4 q4) r.o.now r.o.held r.o.pins v5 r.rs N5 W → Gt g10 r.T r.o.E (.slice Y2 i2 p2) (.slice Y3 i3 p3) (.slice Y4 i4 p4) r.o.now r.o.held r.o.pins y5 r.rs M7 W → Calls Try.prog 10 #[.agg #[.int .i64 r.T, .int .i64 r.o.E, .slice Y2 i2 p2, .slice Y3 i3 p3, .slice Y4 i4 p4], .agg #[.int .i64 r.T, .int .i64 r.o.E, .slice X2 j2 q2, .slice X3 j3 q3, .slice X4 j4 q4]] W fun e W' => e = .returned (.bool true) ∧ Below W.heap.size W W') := ⟨fun W hw hg => eqS k hg.o hw.o G.out.eqS⟩
  have PR : Aside0 (∀ W, Wd w g6 r.T r.o.E (.slice X2 j2 q2) (.slice X3 j3 q3) (.slice X4 j4 q4) r.o.now r.o.held r.o.pins v5 r.rs N5 W → Gt g10 r.T r.o.E (.slice Y2 i2 p2) (.slice Y3 i3 p3) (.slice Y4 i4 p4) r.o.now r.o.held r.o.pins y5 r.rs M7 W → Calls Try.prog 20 #[y5, v5] W fun e W' => e = .returned (.bool true) ∧ Below W.heap.size W W') := ⟨fun W hw hg => eqR k (Kd.S_R hg.s) hw.r G.out.eqR⟩
  obtain ⟨c0, c1_, c2, c3, c4⟩ := CW.out _ WD8.out
  obtain ⟨e0, e1, e2, e3, e4⟩ := CG.out _ _ _ _ _ GT8.out
  go_upto_region 10 with (first
    | (go_at_call 10; (with_reducible refine (PS.out _ WD8.out GT8.out).mono ?_); rintro e W9 ⟨rfl, hB⟩; have WD9 := Aside0.mk (WD8.out.below hB); have GT9 := Aside0.mk (GT8.out.below hB); have EX9 := Aside0.mk (Kd.R_below EX8.out hB); clear hB)
    | (go_at_call 20; (with_reducible refine (PR.out _ WD9.out GT9.out).mono ?_); rintro e W10 ⟨rfl, hB⟩; have WD10 := Aside0.mk (WD9.out.below hB); have GT10 := Aside0.mk (GT9.out.below hB); have EX10 := Aside0.mk (Kd.R_below EX9.out hB); clear hB))
  clear WD8 GT8 EX8 WD9 GT9 EX9 c0 c1_ c2 c3 c4 e0 e1 e2 e3 e4
  go_upto_region 12 with (first
    | (go_at_call 18; (with_reducible refine (TA.out _ WD10.out.d).mono ?_); rintro e W11 ⟨B3, d3, rfl, hr, hB⟩; have A11 := Aside0.mk hr; have WD11 := Aside0.mk (WD10.out.below hB); have GT11 := Aside0.mk (GT10.out.below hB); have EX11 := Aside0.mk (Kd.R_below EX10.out hB); clear hr hB)
    | (go_at_call 21; (with_reducible refine (eqA k EX11.out A11.out G.out.eqX).mono ?_); rintro e W12 ⟨rfl, hB⟩; have WD12 := Aside0.mk (WD11.out.below hB); have GT12 := Aside0.mk (GT11.out.below hB); have EX12 := Aside0.mk (Kd.R_below EX11.out hB); clear hB))
  clear WD10 GT10 EX10 WD11 GT11 EX11 A11
  have ck : decide (kx < 0) = false := decide_eq_false (by have := G.out.kx0; omega)
  go_upto_region 14 with (go_at_call 22; (with_reducible refine (markX EX12.out GT12.out WD12.out k 1 kx x2 G.out.mX).mono ?_); rintro e W13 ⟨rfl, hg, hd⟩; have WD13 := Aside0.mk hd; have GT13 := Aside0.mk hg; clear hg hd)
  clear WD12 GT12 EX12
  obtain ⟨c0, c1_, c2, c3, c4⟩ := CW.out _ WD13.out
  obtain ⟨e0, e1, e2, e3, e4⟩ := CG.out _ _ _ _ _ GT13.out
  go_upto_region 16 with (first
    | (go_at_call 10; (with_reducible refine (PS.out _ WD13.out GT13.out).mono ?_); rintro e W14 ⟨rfl, hB⟩; have WD14 := Aside0.mk (WD13.out.below hB); have GT14 := Aside0.mk (GT13.out.below hB); clear hB)
    | (go_at_call 20; (with_reducible refine (PR.out _ WD14.out GT14.out).mono ?_); rintro e W15 ⟨rfl, hB⟩; have WD15 := Aside0.mk (WD14.out.below hB); have GT15 := Aside0.mk (GT14.out.below hB); clear hB))
  clear WD13 GT13 WD14 GT14 PS PR c0 c1_ c2 c3 c4 e0 e1 e2 e3 e4 ck
  have M0 : Aside0 (∀ W, Gt g10 r.T r.o.E (.slice Y2 i2 p2) (.slice Y3 i3 p3) (.slice Y4 i4 p4) r.o.now r.o.held r.o.pins y5 r.rs M7 W → Wd w g6 r.T r.o.E (.slice X2 j2 q2) (.slice X3 j3 q3) (.slice X4 j4 q4) r.o.now r.o.held r.o.pins v5 r.rs N5 W → Calls Try.prog 12 #[.agg #[.int .i64 r.T, .int .i64 r.o.E, .slice Y2 i2 p2, .slice Y3 i3 p3, .slice Y4 i4 p4], .int .i64 1] W fun e W' => e = .returned (.int .i64 m1) ∧ Gt g10 r.T r.o.E (.slice Y2 i2 p2) (.slice Y3 i3 p3) (.slice Y4 i4 p4) n' h' p' y5 r.rs M7 W' ∧ Wd w g6 r.T r.o.E (.slice X2 j2 q2) (.slice X3 j3 q3) (.slice X4 j4 q4) r.o.now r.o.held r.o.pins v5 r.rs N5 W') := ⟨fun W g d => Gt.mark0 g d LE.out k 1 m1 n' h' p' G.out.mG⟩
  have M1 : Aside0 (∀ W, Gt g10 r.T r.o.E (.slice Y2 i2 p2) (.slice Y3 i3 p3) (.slice Y4 i4 p4) n' h' p' y5 r.rs M7 W → Wd w g6 r.T r.o.E (.slice X2 j2 q2) (.slice X3 j3 q3) (.slice X4 j4 q4) r.o.now r.o.held r.o.pins v5 r.rs N5 W → Calls Try.prog 23 #[y5, .int .i64 m1] W fun e W' => e = .returned (.int .i64 m2) ∧ Gt g10 r.T r.o.E (.slice Y2 i2 p2) (.slice Y3 i3 p3) (.slice Y4 i4 p4) n' h' p' y5 (MX.mk m1 r.rs) M7 W' ∧ Wd w g6 r.T r.o.E (.slice X2 j2 q2) (.slice X3 j3 q3) (.slice X4 j4 q4) r.o.now r.o.held r.o.pins v5 r.rs N5 W') := ⟨fun W g d => by
    have h := Gt.mark1 g d LE.out m1 G.out.m10 (by rw [← G.out.mR]; exact G.out.mb) G.out.ml
    rw [← G.out.mR] at h
    exact h⟩
  have H0 : Aside0 (∀ W, Gt g10 r.T r.o.E (.slice Y2 i2 p2) (.slice Y3 i3 p3) (.slice Y4 i4 p4) n' h' p' y5 (MX.mk m1 r.rs) M7 W → Calls Try.prog 14 #[.agg #[.int .i64 r.T, .int .i64 r.o.E, .slice Y2 i2 p2, .slice Y3 i3 p3, .slice Y4 i4 p4], .int .i64 1] W fun e W' => e = .returned (.int .i64 m1) ∧ Below W.heap.size W W') := ⟨fun W g => heldT k 1 m1 G.out.m10 g.o G.out.hG⟩
  have H1 : Aside0 (∀ W, Gt g10 r.T r.o.E (.slice Y2 i2 p2) (.slice Y3 i3 p3) (.slice Y4 i4 p4) n' h' p' y5 (MX.mk m1 r.rs) M7 W → Calls Try.prog 24 #[y5, .int .i64 m1] W fun e W' => e = .returned (.int .i64 m2) ∧ Below W.heap.size W W') := ⟨fun W g => heldR k m1 m2 G.out.m20 (Kd.S_R g.s) G.out.hR⟩
  have cm1 : decide (m1 < 0) = false := decide_eq_false (by have := G.out.m10; omega)
  have cm2 : decide (m2 < 0) = false := decide_eq_false (by have := G.out.m20; omega)
  have cm3 : (m2 != m2) = false := bne_self_eq_false m2
  obtain ⟨e0, e1, e2, e3, e4⟩ := CG.out _ _ _ _ _ GT15.out
  go_upto_region 19 with (first
    | (go_at_call 12; (with_reducible refine (M0.out _ GT15.out WD15.out).mono ?_); rintro e W16 ⟨rfl, hg, hd⟩; have WD16 := Aside0.mk hd; have GT16 := Aside0.mk hg; clear hg hd)
    | (go_at_call 23; (with_reducible refine (M1.out _ GT16.out WD16.out).mono ?_); rintro e W17 ⟨rfl, hg, hd⟩; have WD17 := Aside0.mk hd; have GT17 := Aside0.mk hg; clear hg hd))
  clear WD15 GT15 WD16 GT16 M0 M1 e0 e1 e2 e3 e4
  obtain ⟨e0, e1, e2, e3, e4⟩ := CG.out _ _ _ _ _ GT17.out
  go_upto_region 28 with (first
    | (go_at_call 14; (with_reducible refine (H0.out _ GT17.out).mono ?_); rintro e W18 ⟨rfl, hB⟩; have WD18 := Aside0.mk (WD17.out.below hB); have GT18 := Aside0.mk (GT17.out.below hB); clear hB)
    | (go_at_call 24; (with_reducible refine (H1.out _ GT18.out).mono ?_); rintro e W19 ⟨rfl, hB⟩; have WD19 := Aside0.mk (WD18.out.below hB); have GT19 := Aside0.mk (GT18.out.below hB); clear hB))
  clear WD17 GT17 WD18 GT18 e0 e1 e2 e3 e4
  go_upto_region 29 with (first
    | (go_at_call 18; (with_reducible refine (TA.out _ WD19.out.d).mono ?_); rintro e W20 ⟨B4, d4, rfl, hr, hB⟩; have A20 := Aside0.mk hr; have WD20 := Aside0.mk (WD19.out.below hB); have GT20 := Aside0.mk (GT19.out.below hB); clear hr hB)
    | (go_at_call 19; (with_reducible refine (Irun.calls k a0 B4 d4 l2 r _ (Kd.R_reads' A20.out).2.2 (Kd.R_reads' A20.out).2.1 G.out.impl).mono ?_); rintro e W21 ⟨u2, u3, u4, u5, rfl, ht, hr, hB⟩; have T21 := Aside0.mk ht; have R21 := Aside0.mk hr; have WD21 := Aside0.mk (WD20.out.below hB); have GT21 := Aside0.mk (GT20.out.below hB); clear ht hr hB; obtain ⟨U2, f2, e2⟩ := Kd.R_slice T21.out.n; obtain ⟨U3, f3, e3⟩ := Kd.R_slice T21.out.h; obtain ⟨U4, f4, e4⟩ := Kd.R_slice T21.out.p; generalize List.length _ = k2 at e2; generalize List.length _ = k3 at e3; generalize List.length _ = k4 at e4; subst e2 e3 e4))
  have WD22 := Aside0.mk (WD21.out.below (below_alloc (Below.refl _ _) (.cells #[.int .i64 r.T, .int .i64 r.o.E, .slice U2 k2 f2, .slice U3 k3 f3, .slice U4 k4 f4] 31)))
  have GT22 := Aside0.mk (GT21.out.below (below_alloc (Below.refl _ _) (.cells #[.int .i64 r.T, .int .i64 r.o.E, .slice U2 k2 f2, .slice U3 k3 f3, .slice U4 k4 f4] 31)))
  have OH : Aside0 (Own 0 W21.heap.size (W21.alloc (.cells #[.int .i64 r.T, .int .i64 r.o.E, .slice U2 k2 f2, .slice U3 k3 f3, .slice U4 k4 f4] 31)) r.T r.o.E (.slice U2 k2 f2) (.slice U3 k3 f3) (.slice U4 k4 f4) r.o.now r.o.held r.o.pins) := ⟨⟨blk_new _ _, Nat.zero_le _, (T21.out.below (below_alloc (Below.refl _ _) (.cells #[.int .i64 r.T, .int .i64 r.o.E, .slice U2 k2 f2, .slice U3 k3 f3, .slice U4 k4 f4] 31))).lower (Nat.zero_le _)⟩⟩
  have RH := Aside0.mk (Kd.S_R (Kd.S_below R21.out (below_alloc (Below.refl _ _) (.cells #[.int .i64 r.T, .int .i64 r.o.E, .slice U2 k2 f2, .slice U3 k3 f3, .slice U4 k4 f4] 31))))
  clear WD19 GT19 WD20 GT20 WD21 GT21 A20 T21 R21 TA
  generalize W21.alloc (.cells #[.int .i64 r.T, .int .i64 r.o.E, .slice U2 k2 f2, .slice U3 k3 f3, .slice U4 k4 f4] 31) = W22 at WD22 GT22 OH RH ⊢
  generalize W21.heap.size = g16 at OH ⊢
  obtain ⟨c0, c1_, c2, c3, c4⟩ := CW.out _ WD22.out
  have h0 := (blk_cell OH.out.box 0).trans (rfl : _ = some (Value.int .i64 r.T))
  have h1 := (blk_cell OH.out.box 1).trans (rfl : _ = some (Value.int .i64 r.o.E))
  have h2 := (blk_cell OH.out.box 2).trans (rfl : _ = some (Value.slice U2 k2 f2))
  have h3 := (blk_cell OH.out.box 3).trans (rfl : _ = some (Value.slice U3 k3 f3))
  have h4 := (blk_cell OH.out.box 4).trans (rfl : _ = some (Value.slice U4 k4 f4))
  go_upto_region 31 with (first
    | (go_at_call 10; (with_reducible refine (eqS k OH.out WD22.out.o G.out.eqS).mono ?_); rintro e W23 ⟨rfl, hB⟩; have WD23 := Aside0.mk (WD22.out.below hB); have GT23 := Aside0.mk (GT22.out.below hB); have RH23 := Aside0.mk (Kd.R_below RH.out hB); clear hB)
    | (go_at_call 20; (with_reducible refine (eqR k RH23.out WD23.out.r G.out.eqR).mono ?_); rintro e W24 ⟨rfl, hB⟩; have WD24 := Aside0.mk (WD23.out.below hB); have GT24 := Aside0.mk (GT23.out.below hB); clear hB))
  clear WD22 GT22 WD23 GT23 OH RH RH23 c0 c1_ c2 c3 c4 h0 h1 h2 h3 h4
  obtain ⟨e0, e1, e2, e3, e4⟩ := CG.out _ _ _ _ _ GT24.out
  go_wp2_with (first
    | (go_at_call 14; (with_reducible refine (H0.out _ GT24.out).mono ?_); rintro e W25 ⟨rfl, hB⟩; have WD25 := Aside0.mk (WD24.out.below hB); have GT25 := Aside0.mk (GT24.out.below hB); clear hB)
    | (go_at_call 24; (with_reducible refine (H1.out _ GT25.out).mono ?_); rintro e W26 ⟨rfl, hB⟩; have WD26 := Aside0.mk (WD25.out.below hB); clear hB))
  go_ret
  exact ⟨rfl, WD26.out.d⟩
end Go.Proofs.Ytcnkacbgcmnokaa.XR
