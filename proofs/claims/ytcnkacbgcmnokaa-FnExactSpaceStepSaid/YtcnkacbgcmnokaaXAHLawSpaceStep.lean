-- Written for this claim: a contract of one function, proved by hand; the places of its template filled by a program.
import Derived.Test.YtcnkacbgcmnokaaXA0
import Derived.Test.YtcnkacbgcmnokaaXA1
import Derived.Test.YtcnkacbgcmnokaaXA2
import Derived.Test.YtcnkacbgcmnokaaXA3
import Derived.Test.YtcnkacbgcmnokaaRoomy
import Derived.Test.YtcnkacbgcmnokaaXA5
import Derived.Test.YtcnkacbgcmnokaaXA6
import Derived.Test.YtcnkacbgcmnokaaXA7
import Derived.Test.YtcnkacbgcmnokaaClones
import Derived.Test.YtcnkacbgcmnokaaXAHSpaceOK
import Derived.Test.YtcnkacbgcmnokaaXAHspecSpaceOK
import Derived.Test.YtcnkacbgcmnokaaLawpA
import Derived.Test.YtcnkacbgcmnokaaRegsA
namespace Go.Proofs.Ytcnkacbgcmnokaa.XA
open Go Go.RowKit Go.Proofs.YtcnkacbgcmnokaaW.PrintWords Go.Proofs.YtcnkacbgcmnokaaW.PrintLast Go.Proofs.YtcnkacbgcmnokaaW.PrintMore
set_option linter.unusedVariables false
set_option linter.unusedSimpArgs false
open Go.Proofs.Ytcnkacbgcmnokaa.XA.Room Go.Proofs.Ytcnkacbgcmnokaa.XA.Law Go.Proofs.Ytcnkacbgcmnokaa.XA.Fram
/-- The results' rows. -/
def JR (okf : Value → Value → Nat → Prop) (b : Nat) (now : List Int) (held : List S74) (pins pages : List Int) (u2 u3 u4 u5 : Value) (W : World) : Prop :=
  Trio b W u2 u3 u4 now held pins ∧ (Kd.int .i64).R 3 W b (okf u2 u4) u5 pages
/-- A copy of the argument. -/
def JA (T E : Int) (l2 : List Int) (t3 : List S74) (l4 : List Int) (v : Value) (W : World) : Prop :=
  ∃ v2 v3 v4, v = .agg #[.int .i64 T, .int .i64 E, v2, v3, v4] ∧ Trio 0 W v2 v3 v4 l2 t3 l4
theorem okJ {p : Dt} {okf : Value → Value → Nat → Prop} {b : Nat} {now : List Int} {held : List S74} {pins pages : List Int} (h1 : ∀ v W W', p.J1 v W → Below W.heap.size W W' → p.J1 v W') (h3 : p.J3 = JR okf b now held pins pages) : Ok p where
  s1 := h1
  s3 := fun u W W' h hb => by
    unfold Dt.J at h ⊢; rw [h3] at h ⊢
    exact ⟨h.1.below hb, Kd.R_below h.2 hb⟩
  t3 := fun u W g t cs h hb ht j v => by
    unfold Dt.J at h ⊢; rw [h3] at h ⊢
    rcases ht with rfl | rfl
    · exact ⟨h.1.set hb (by decide) (by decide) j v, Kd.R_set h.2 hb (by decide) j v⟩
    · exact ⟨h.1.set hb (by decide) (by decide) j v, Kd.R_set h.2 hb (by decide) j v⟩
  o3 := fun u W h => by
    unfold Dt.J at h; rw [h3] at h
    obtain ⟨_, _, e2⟩ := Kd.R_slice h.1.n
    obtain ⟨_, _, e3⟩ := Kd.R_slice h.1.h
    obtain ⟨_, _, e4⟩ := Kd.R_slice h.1.p
    obtain ⟨_, _, e5⟩ := Kd.R_slice h.2
    rw [e2, e3, e4, e5]; exact ⟨rfl, rfl, rfl, rfl⟩
theorem JA_below {T E : Int} {l2 l4 : List Int} {t3 : List S74} {v : Value} {W W' : World} (h : JA T E l2 t3 l4 v W) (hb : Below W.heap.size W W') : JA T E l2 t3 l4 v W' := by
  obtain ⟨v2, v3, v4, e, t⟩ := h
  exact ⟨v2, v3, v4, e, t.below hb⟩
/-- What the walk asks: the functions' values, and that they agree. -/
structure laws_FnExactSpaceStep.Good (k : Nat) (a b : Int) (l2 : List Int) (l3 : List S77) (l4 : List Int) (kind n : Int) (t3 : List S74) (r : Istep.Res) (kx : Int) (x2 : List Int) (x3 : List S74) (x4 : List Int) (m1 : Int) (n' : List Int) (h' : List S74) (p' : List Int) (m2 : Int) (pg' : List Int) : Prop where
  toS : laws_toSpace.f k a b l2 l3 l4 = some (a, b, l2, t3, l4)
  spec : Sspc.f k a b l2 t3 l4 kind n = some r
  impl : Istep.f k a b l2 t3 l4 kind n = some r
  eqS : laws_eqSpace.f k r.T r.o.E r.o.now r.o.held r.o.pins r.T r.o.E r.o.now r.o.held r.o.pins = some true
  eqR : laws_eqSpaceReply.f k r.o.code r.o.pages r.o.code r.o.pages = some true
  eqX : laws_eqSpace.f k a b l2 t3 l4 a b l2 t3 l4 = some true
  mX : laws_markSpace.f k a b l2 t3 l4 1 = some (kx, x2, x3, x4)
  kx0 : 0 ≤ kx
  mG : laws_markSpace.f k r.T r.o.E r.o.now r.o.held r.o.pins 1 = some (m1, n', h', p')
  mR : laws_markSpaceReply.f k r.o.code r.o.pages m1 = some (m2, pg')
  hG : laws_heldSpace.f k r.T r.o.E n' h' p' 1 = some m1
  hR : laws_heldSpaceReply.f k r.o.code pg' m1 = some m2
  m10 : 0 ≤ m1
  m20 : 0 ≤ m2
def laws_FnExactSpaceStep.Fit (k : Nat) (a b : Int) (l2 : List Int) (l3 : List S77) (l4 : List Int) (kind n : Int) : Prop :=
  ∃ t, laws_szSpace.f a b l2 l3 l4 1048576 = some t ∧ (t < 0 ∨ (0 ≤ t ∧ ∃ t3 r kx x2 x3 x4 m1 n' h' p' m2 pg', laws_FnExactSpaceStep.Good k a b l2 l3 l4 kind n t3 r kx x2 x3 x4 m1 n' h' p' m2 pg'))
open Classical in
noncomputable def laws_FnExactSpaceStep.f (k : Nat) (a b : Int) (l2 : List Int) (l3 : List S77) (l4 : List Int) (kind n : Int) : Option Bool := if laws_FnExactSpaceStep.Fit k a b l2 l3 l4 kind n then some true else none
set_option maxHeartbeats 8000000 in
set_option maxRecDepth 100000 in
theorem laws_FnExactSpaceStep.calls (k : Nat) (a0_0 : Int) (a0_1 : Int) (A0_2 : Option Addr) (c0_2 : Nat) (l0_2 : List Int) (A0_3 : Option Addr) (c0_3 : Nat) (l0_3 : List (S77)) (A0_4 : Option Addr) (c0_4 : Nat) (l0_4 : List Int) (a1_0 : Int) (a1_1 : Int) (r : Bool) (w : World) (hr0_2 : Kd.C (Kd.int .i64) w A0_2 l0_2.length l0_2) (hc0_2 : l0_2.length ≤ c0_2) (hr0_3 : Kd.C k77 w A0_3 l0_3.length l0_3) (hc0_3 : l0_3.length ≤ c0_3) (hr0_4 : Kd.C (Kd.int .i64) w A0_4 l0_4.length l0_4) (hc0_4 : l0_4.length ≤ c0_4) (h : laws_FnExactSpaceStep.f k a0_0 a0_1 l0_2 l0_3 l0_4 a1_0 a1_1 = some r) :
    Calls Try.prog 3 #[.agg #[.int .i64 a0_0, .int .i64 a0_1, .slice A0_2 l0_2.length c0_2, .slice A0_3 l0_3.length c0_3, .slice A0_4 l0_4.length c0_4], .agg #[.int .i64 a1_0, .int .i64 a1_1]] w fun e w' => e = .returned (.bool r) ∧ Below w.heap.size w w' := by
  have hu31 := Try.underlying31
  have hu33 := Try.underlying33
  have hu25 := Try.underlying25
  have hu27 := Try.underlying27
  have hu37 := Try.underlying37
  obtain ⟨hfit, hr_⟩ := Option.ite_none_right_eq_some.1 h
  obtain rfl := Option.some.inj hr_
  clear h hr_
  have HR : Aside0 (Kd.C (Kd.int .i64) w A0_2 l0_2.length l0_2 ∧ l0_2.length ≤ c0_2 ∧ Kd.C k77 w A0_3 l0_3.length l0_3 ∧ l0_3.length ≤ c0_3 ∧ Kd.C (Kd.int .i64) w A0_4 l0_4.length l0_4 ∧ l0_4.length ≤ c0_4) := ⟨⟨hr0_2, hc0_2, hr0_3, hc0_3, hr0_4, hc0_4⟩⟩
  have R0 := Aside0.mk (Ar.start w #[.int .i64 a0_0, .int .i64 a0_1, .slice A0_2 l0_2.length c0_2, .slice A0_3 l0_3.length c0_3, .slice A0_4 l0_4.length c0_4] #[.int .i64 a1_0, .int .i64 a1_1])
  clear hr0_2 hc0_2 hr0_3 hc0_3 hr0_4 hc0_4
  go_enter Try.func3, Try.ntmps3
  go_upto_region 1 with (fail)
  generalize (w.alloc (.cells #[.int .i64 a0_0, .int .i64 a0_1, .slice A0_2 l0_2.length c0_2, .slice A0_3 l0_3.length c0_3, .slice A0_4 l0_4.length c0_4] 25)).alloc (.cells #[.int .i64 a1_0, .int .i64 a1_1] 27) = W1 at R0 ⊢
  obtain ⟨g2, hg2⟩ : ∃ g2, g2 = w.heap.size := ⟨_, rfl⟩
  obtain ⟨g3, hg3⟩ : ∃ g3, g3 = w.heap.size + 1 := ⟨_, rfl⟩
  rw [show (Value.pointer (some ⟨w.heap.size, 0, none⟩)) = .pointer (some ⟨g2, 0, none⟩) by rw [hg2], show (Value.pointer (some ⟨w.heap.size + 1, 0, none⟩)) = .pointer (some ⟨g3, 0, none⟩) by rw [hg3]]
  have G2 := Aside0.mk hg2
  have G3 := Aside0.mk hg3
  clear hg2 hg3
  have AC : Aside0 (∀ W, Ar w #[.int .i64 a0_0, .int .i64 a0_1, .slice A0_2 l0_2.length c0_2, .slice A0_3 l0_3.length c0_3, .slice A0_4 l0_4.length c0_4] #[.int .i64 a1_0, .int .i64 a1_1] W →
      W.cell? ⟨g2, 0, none⟩ = some (.int .i64 a0_0) ∧ W.cell? ⟨g2, 1, none⟩ = some (.int .i64 a0_1) ∧ W.cell? ⟨g2, 2, none⟩ = some (.slice A0_2 l0_2.length c0_2) ∧ W.cell? ⟨g2, 3, none⟩ = some (.slice A0_3 l0_3.length c0_3) ∧ W.cell? ⟨g2, 4, none⟩ = some (.slice A0_4 l0_4.length c0_4) ∧ W.cell? ⟨g3, 0, none⟩ = some (.int .i64 a1_0) ∧ W.cell? ⟨g3, 1, none⟩ = some (.int .i64 a1_1)) := ⟨fun W H => by
    rw [G2.out, G3.out]
    exact ⟨(blk_cell H.a 0).trans rfl, (blk_cell H.a 1).trans rfl, (blk_cell H.a 2).trans rfl, (blk_cell H.a 3).trans rfl, (blk_cell H.a 4).trans rfl, (blk_cell H.c 0).trans rfl, (blk_cell H.c 1).trans rfl⟩⟩
  obtain ⟨t, hsz, hrest⟩ := hfit
  have SZ := Aside0.mk hsz
  clear hsz
  obtain ⟨h0, h1, h2, h3, h4, h5, h6⟩ := AC.out _ R0.out
  go_upto_region 3 with (go_at_call 5; (with_reducible refine (laws_szSpace.calls a0_0 a0_1 A0_2 c0_2 l0_2 A0_3 c0_3 l0_3 A0_4 c0_4 l0_4 1048576 t _ (Kd.C_below HR.out.1 R0.out.d) HR.out.2.1 (Kd.C_below HR.out.2.2.1 R0.out.d) HR.out.2.2.2.1 (Kd.C_below HR.out.2.2.2.2.1 R0.out.d) HR.out.2.2.2.2.2 SZ.out).mono ?_); rintro e W2 ⟨rfl, hB⟩; have R2 := Aside0.mk (R0.out.below hB); clear hB)
  clear h0 h1 h2 h3 h4 h5 h6 R0 SZ
  rcases hrest with ht | ⟨ht, t3, r, kx, x2, x3, x4, m1, n', h', p', m2, pg', hG⟩
  · have ct : decide (t < 0) = true := decide_eq_true ht
    clear ht
    go_wp2
    go_ret
    exact ⟨rfl, R2.out.d⟩
  have ct : decide (t < 0) = false := decide_eq_false (by omega)
  have G := Aside0.mk hG
  clear hG ht
  have TS : Aside0 (∀ W, Below w.heap.size w W → Calls Try.prog 7 #[.agg #[.int .i64 a0_0, .int .i64 a0_1, .slice A0_2 l0_2.length c0_2, .slice A0_3 l0_3.length c0_3, .slice A0_4 l0_4.length c0_4]] W fun e W' => ∃ B2 d2 B3 d3 B4 d4, e = .returned (.agg #[.int .i64 a0_0, .int .i64 a0_1, .slice B2 l0_2.length d2, .slice B3 t3.length d3, .slice B4 l0_4.length d4]) ∧ Trio W.heap.size W' (.slice B2 l0_2.length d2) (.slice B3 t3.length d3) (.slice B4 l0_4.length d4) l0_2 t3 l0_4 ∧ Below W.heap.size W W') :=
    ⟨fun W d => toS k A0_2 c0_2 l0_2 A0_3 c0_3 l0_3 A0_4 c0_4 l0_4 t3 d HR.out.1 HR.out.2.1 HR.out.2.2.1 HR.out.2.2.2.1 HR.out.2.2.2.2.1 HR.out.2.2.2.2.2 G.out.toS⟩
  have TA : Aside0 (∀ W, Calls Try.prog 8 #[.agg #[.int .i64 a1_0, .int .i64 a1_1]] W fun e W' => e = .returned (.agg #[.int .i64 a1_0, .int .i64 a1_1]) ∧ Below W.heap.size W W') := ⟨fun W => laws_toSpaceAct.calls a1_0 a1_1 a1_0 a1_1 W rfl⟩
  obtain ⟨rT, ⟨rE, rnow, rheld, rpins, rcode, rpages⟩, rerr⟩ := r
  obtain ⟨h0, h1, h2, h3, h4, h5, h6⟩ := AC.out _ R2.out
  go_upto_region 5 with (fail)
  clear ct
  refine R5.whole (p := ⟨a0_0, a0_1, .slice A0_2 l0_2.length c0_2, .slice A0_3 l0_3.length c0_3, .slice A0_4 l0_4.length c0_4, a1_0, a1_1, rT, rE, rcode, rerr, JA a0_0 a0_1 l0_2 t3 l0_4, JR (fun _ _ _ => True) W2.heap.size rnow rheld rpins rpages⟩) (ga := g2) (gb := g3) ⟨?ok, by rfl, by rfl, by rfl, ?ya, ?yb, ?c0, ?c1, ?c2, ?hp, ?hq⟩
  case ok => exact okJ (fun v W W' h hb => JA_below h hb) rfl
  case ya => exact fun W d => by obtain ⟨h0, h1, h2, h3, h4, h5, h6⟩ := AC.out W (R2.out.below d); exact ⟨h0, h1, h2, h3, h4⟩
  case yb => exact fun W d => by obtain ⟨h0, h1, h2, h3, h4, h5, h6⟩ := AC.out W (R2.out.below d); exact ⟨h5, h6⟩
  case c0 => exact fun W d => (TS.out W (below_step R2.out.d d)).mono (by rintro e W' ⟨B2, d2, B3, d3, B4, d4, rfl, ht, hB⟩; exact ⟨_, rfl, ⟨_, _, _, rfl, ht.lower (Nat.zero_le _)⟩, hB⟩)
  case c1 => exact fun W d => TA.out W
  case c2 =>
    rintro v W d ⟨q2, q3, q4, rfl, t⟩
    obtain ⟨B2, d2, rfl⟩ := Kd.R_slice t.n
    obtain ⟨B3, d3, rfl⟩ := Kd.R_slice t.h
    obtain ⟨B4, d4, rfl⟩ := Kd.R_slice t.p
    refine (Sspc.calls k 0 a0_0 a0_1 B2 d2 l0_2 B3 d3 t3 B4 d4 l0_4 a1_0 a1_1 _ W t G.out.spec).mono ?_
    rintro e W' ⟨u2, u3, u4, u5, rfl, ht, hr, hB⟩
    exact ⟨⟨u2, u3, u4, u5⟩, rfl, ⟨ht.lower d.size, Kd.R_lower hr d.size⟩, hB⟩
  case hp => exact fun _ _ _ _ _ h => h
  case hq =>
    rintro z ⟨v2, v3, v4, v5⟩ g6 g7 W5 d5 j5 l6 l7 b6 b7
    simp only [List.setIfInBounds_toArray, List.set_cons_zero, List.set_cons_succ, Dt.E]
    obtain ⟨jt, jr⟩ : JR (fun _ _ _ => True) W2.heap.size rnow rheld rpins rpages v2 v3 v4 v5 W5 := j5
    have WD : Aside0 (Wd w #[.int .i64 a0_0, .int .i64 a0_1, .slice A0_2 l0_2.length c0_2, .slice A0_3 l0_3.length c0_3, .slice A0_4 l0_4.length c0_4] #[.int .i64 a1_0, .int .i64 a1_1] g6 g7 rT rE v2 v3 v4 rnow rheld rpins rcode v5 rpages W5.heap.size W5) := ⟨Wd.start (R2.out.below d5) ⟨⟨b6, l6, jt⟩, b7, jr, l7⟩⟩
    clear jt jr b6 b7 l6 l7 d5 R2 h0 h1 h2 h3 h4 h5 h6
    obtain ⟨N5, hN5⟩ : ∃ N5, N5 = W5.heap.size := ⟨_, rfl⟩
    rw [← hN5] at WD
    have HN := Aside0.mk hN5
    clear hN5
    obtain ⟨h0, h1, h2, h3, h4, h5, h6⟩ := AC.out _ WD.out.ar
    go_upto_region 7 with (go_at_call 7; (with_reducible refine (TS.out _ WD.out.d).mono ?_); rintro e W6 ⟨B2, d2, B3, d3, B4, d4, rfl, ht, hB⟩; have T6 := Aside0.mk ht; have WD6 := Aside0.mk (WD.out.below hB); have B6 := Aside0.mk hB; clear ht hB)
    have EX : Aside0 (Ex W6.heap.size a0_0 a0_1 (.slice B2 l0_2.length d2) (.slice B3 t3.length d3) (.slice B4 l0_4.length d4) l0_2 t3 l0_4 N5 (W6.alloc (.cells #[.int .i64 a0_0, .int .i64 a0_1, .slice B2 l0_2.length d2, .slice B3 t3.length d3, .slice B4 l0_4.length d4] 31)).heap.size (W6.alloc (.cells #[.int .i64 a0_0, .int .i64 a0_1, .slice B2 l0_2.length d2, .slice B3 t3.length d3, .slice B4 l0_4.length d4] 31))) := ⟨by rw [HN.out]; exact Ex.start T6.out B6.out.size⟩
    have WD7 := Aside0.mk (WD6.out.below (below_alloc (Below.refl _ _) (.cells #[.int .i64 a0_0, .int .i64 a0_1, .slice B2 l0_2.length d2, .slice B3 t3.length d3, .slice B4 l0_4.length d4] 31)))
    clear T6 B6 WD WD6 h0 h1 h2 h3 h4 h5 h6
    generalize W6.alloc (.cells #[.int .i64 a0_0, .int .i64 a0_1, .slice B2 l0_2.length d2, .slice B3 t3.length d3, .slice B4 l0_4.length d4] 31) = W7 at EX WD7 ⊢
    generalize W6.heap.size = g9 at EX ⊢
    obtain ⟨M7, hM7⟩ : ∃ M7, M7 = W7.heap.size := ⟨_, rfl⟩
    rw [← hM7] at EX
    have HM := Aside0.mk hM7
    clear hM7
    have LE : Aside0 (N5 ≤ M7) := ⟨by rw [HM.out]; exact WD7.out.lN⟩
    refine R7.whole (p := ⟨a0_0, a0_1, .slice B2 l0_2.length d2, .slice B3 t3.length d3, .slice B4 l0_4.length d4, a1_0, a1_1, rT, rE, rcode, rerr, fun _ _ => True, JR (fun a b q => some q ≠ a.ownBlock ∧ some q ≠ b.ownBlock) W7.heap.size rnow rheld rpins rpages⟩) (ga := g9) (gb := g3) ⟨?ok, by rfl, by rfl, by rfl, ?ya, ?yb, ?c1, ?c2, ?hp, ?hq⟩
    case ok => exact okJ (fun _ _ _ _ _ => trivial) rfl
    case ya => exact fun W d => by have o := (EX.out.below d).o.box; exact ⟨(blk_cell o 0).trans rfl, (blk_cell o 1).trans rfl, (blk_cell o 2).trans rfl, (blk_cell o 3).trans rfl, (blk_cell o 4).trans rfl⟩
    case yb => exact fun W d => by obtain ⟨h0, h1, h2, h3, h4, h5, h6⟩ := AC.out W (WD7.out.below d).ar; exact ⟨h5, h6⟩
    case c1 => exact fun W d => TA.out W
    case c2 =>
      intro W d
      have o := (EX.out.below d).o
      refine (Istep.calls k a0_0 a0_1 B2 d2 l0_2 B3 d3 t3 B4 d4 l0_4 a1_0 a1_1 _ W (Kd.R_reads' o.r.n).2.2 (Kd.R_reads' o.r.n).2.1 (Kd.R_reads' o.r.h).2.2 (Kd.R_reads' o.r.h).2.1 (Kd.R_reads' o.r.p).2.2 (Kd.R_reads' o.r.p).2.1 G.out.impl).mono ?_
      rintro e W' ⟨u2, u3, u4, u5, rfl, ht, hr, hB⟩
      exact ⟨⟨u2, u3, u4, u5⟩, rfl, ⟨ht.lower d.size, Kd.R_lower hr d.size⟩, hB⟩
    case hp => exact fun _ _ _ _ _ h => h
    case hq =>
      rintro z2 ⟨y2, y3, y4, y5⟩ g10 g11 W8 d8 j8 l6 l7 b6 b7
      simp only [List.setIfInBounds_toArray, List.set_cons_zero, List.set_cons_succ, Dt.E]
      obtain ⟨jt, jr⟩ : JR (fun a b q => some q ≠ a.ownBlock ∧ some q ≠ b.ownBlock) W7.heap.size rnow rheld rpins rpages y2 y3 y4 y5 W8 := j8
      have GT8 : Aside0 (Gt g10 g11 rT rE y2 y3 y4 rnow rheld rpins rcode y5 rpages M7 W8) := ⟨by rw [HM.out]; exact ⟨⟨⟨b6, l6, jt⟩, b7, Kd.R_reok rfl jr (fun _ _ => trivial), l7⟩, fun q hq => jr.1 q hq, d8.size⟩⟩
      have WD8 := Aside0.mk (WD7.out.below d8)
      have EX8 := Aside0.mk (EX.out.below d8)
      clear jt jr b6 b7 l6 l7 d8 EX WD7 HM HN
      have CW : Aside0 (∀ W, Wd w #[.int .i64 a0_0, .int .i64 a0_1, .slice A0_2 l0_2.length c0_2, .slice A0_3 l0_3.length c0_3, .slice A0_4 l0_4.length c0_4] #[.int .i64 a1_0, .int .i64 a1_1] g6 g7 rT rE v2 v3 v4 rnow rheld rpins rcode v5 rpages N5 W → W.cell? ⟨g6, 0, none⟩ = some (.int .i64 rT) ∧ W.cell? ⟨g6, 1, none⟩ = some (.int .i64 rE) ∧ W.cell? ⟨g6, 2, none⟩ = some v2 ∧ W.cell? ⟨g6, 3, none⟩ = some v3 ∧ W.cell? ⟨g6, 4, none⟩ = some v4 ∧ W.cell? ⟨g7, 0, none⟩ = some (.int .i64 rcode) ∧ W.cell? ⟨g7, 1, none⟩ = some v5) := ⟨fun W H => ⟨(blk_cell H.t.o.box 0).trans rfl, (blk_cell H.t.o.box 1).trans rfl, (blk_cell H.t.o.box 2).trans rfl, (blk_cell H.t.o.box 3).trans rfl, (blk_cell H.t.o.box 4).trans rfl, (blk_cell H.t.b' 0).trans rfl, (blk_cell H.t.b' 1).trans rfl⟩⟩
      have CG : Aside0 (∀ W q2 q3 q4 q5, Gt g10 g11 rT rE y2 y3 y4 q2 q3 q4 rcode y5 q5 M7 W → W.cell? ⟨g10, 0, none⟩ = some (.int .i64 rT) ∧ W.cell? ⟨g10, 1, none⟩ = some (.int .i64 rE) ∧ W.cell? ⟨g10, 2, none⟩ = some y2 ∧ W.cell? ⟨g10, 3, none⟩ = some y3 ∧ W.cell? ⟨g10, 4, none⟩ = some y4 ∧ W.cell? ⟨g11, 0, none⟩ = some (.int .i64 rcode) ∧ W.cell? ⟨g11, 1, none⟩ = some y5) := ⟨fun W _ _ _ _ H => ⟨(blk_cell H.t.o.box 0).trans rfl, (blk_cell H.t.o.box 1).trans rfl, (blk_cell H.t.o.box 2).trans rfl, (blk_cell H.t.o.box 3).trans rfl, (blk_cell H.t.o.box 4).trans rfl, (blk_cell H.t.b' 0).trans rfl, (blk_cell H.t.b' 1).trans rfl⟩⟩
      have PS : Aside0 (∀ W, Wd w #[.int .i64 a0_0, .int .i64 a0_1, .slice A0_2 l0_2.length c0_2, .slice A0_3 l0_3.length c0_3, .slice A0_4 l0_4.length c0_4] #[.int .i64 a1_0, .int .i64 a1_1] g6 g7 rT rE v2 v3 v4 rnow rheld rpins rcode v5 rpages N5 W → Gt g10 g11 rT rE y2 y3 y4 rnow rheld rpins rcode y5 rpages M7 W → Calls Try.prog 10 #[.agg #[.int .i64 rT, .int .i64 rE, y2, y3, y4], .agg #[.int .i64 rT, .int .i64 rE, v2, v3, v4]] W fun e W' => e = .returned (.bool true) ∧ Below W.heap.size W W') := ⟨fun W hw hg => eqS k true hg.t.o hw.t.o G.out.eqS⟩
      have PR : Aside0 (∀ W, Wd w #[.int .i64 a0_0, .int .i64 a0_1, .slice A0_2 l0_2.length c0_2, .slice A0_3 l0_3.length c0_3, .slice A0_4 l0_4.length c0_4] #[.int .i64 a1_0, .int .i64 a1_1] g6 g7 rT rE v2 v3 v4 rnow rheld rpins rcode v5 rpages N5 W → Gt g10 g11 rT rE y2 y3 y4 rnow rheld rpins rcode y5 rpages M7 W → Calls Try.prog 11 #[.agg #[.int .i64 rcode, y5], .agg #[.int .i64 rcode, v5]] W fun e W' => e = .returned (.bool true) ∧ Below W.heap.size W W') := ⟨fun W hw hg => eqR k true hg.t.r hw.t.r G.out.eqR⟩
      obtain ⟨c0, c1, c2, c3, c4, c5, c6⟩ := CW.out _ WD8.out
      obtain ⟨e0, e1, e2, e3, e4, e5, e6⟩ := CG.out _ _ _ _ _ GT8.out
      go_upto_region 10 with (first
        | (go_at_call 10; (with_reducible refine (PS.out _ WD8.out GT8.out).mono ?_); rintro e W9 ⟨rfl, hB⟩; have WD9 := Aside0.mk (WD8.out.below hB); have GT9 := Aside0.mk (GT8.out.below hB); have EX9 := Aside0.mk (EX8.out.below hB); clear hB; obtain ⟨c0, c1, c2, c3, c4, c5, c6⟩ := CW.out _ WD9.out; obtain ⟨e0, e1, e2, e3, e4, e5, e6⟩ := CG.out _ _ _ _ _ GT9.out)
        | (go_at_call 11; (with_reducible refine (PR.out _ WD9.out GT9.out).mono ?_); rintro e W10 ⟨rfl, hB⟩; have WD10 := Aside0.mk (WD9.out.below hB); have GT10 := Aside0.mk (GT9.out.below hB); have EX10 := Aside0.mk (EX9.out.below hB); clear hB))
      clear WD8 GT8 EX8 WD9 GT9 EX9 c0 c1 c2 c3 c4 c5 c6 e0 e1 e2 e3 e4 e5 e6
      go_cut [62] (fun s62 wx => s62 = .bool false ∧ Aside0 (Below W10.heap.size W10 wx))
      case first =>
        have o := EX10.out.o
        have i0 := (blk_cell o.box 0).trans (rfl : _ = some (Value.int .i64 a0_0))
        have i1 := (blk_cell o.box 1).trans (rfl : _ = some (Value.int .i64 a0_1))
        have i2 := (blk_cell o.box 2).trans (rfl : _ = some (Value.slice B2 l0_2.length d2))
        have i3 := (blk_cell o.box 3).trans (rfl : _ = some (Value.slice B3 t3.length d3))
        have i4 := (blk_cell o.box 4).trans (rfl : _ = some (Value.slice B4 l0_4.length d4))
        clear o
        obtain ⟨h0, h1, h2, h3, h4, h5, h6⟩ := AC.out _ WD10.out.ar
        go_region_with (first
          | (go_at_call 7; (with_reducible refine (TS.out _ ?c).mono ?_); (case c => exact below_step WD10.out.d (below_drew (Below.refl _ _))); rintro e W11 ⟨A2, f2, A3, f3, A4, f4, rfl, ht, hB⟩; have T11 := Aside0.mk ht; have B11 := Aside0.mk (below_step (w := W10) (below_drew (Below.refl _ _)) hB); have EX11 := Aside0.mk (EX10.out.below B11.out); clear ht hB; have o := EX11.out.o; have i0 := (blk_cell o.box 0).trans (rfl : _ = some (Value.int .i64 a0_0)); have i1 := (blk_cell o.box 1).trans (rfl : _ = some (Value.int .i64 a0_1)); have i2 := (blk_cell o.box 2).trans (rfl : _ = some (Value.slice B2 l0_2.length d2)); have i3 := (blk_cell o.box 3).trans (rfl : _ = some (Value.slice B3 t3.length d3)); have i4 := (blk_cell o.box 4).trans (rfl : _ = some (Value.slice B4 l0_4.length d4)); clear o)
          | (go_at_call 10; (with_reducible refine (eqT k true EX11.out.o T11.out G.out.eqX).mono ?_); rintro e W12 ⟨rfl, hb⟩; have B12 := Aside0.mk (below_step B11.out hb); clear hb))
        all_goals (go_wp2_with fail; go_meet; exact ⟨rfl, B12⟩)
      case rest =>
        obtain ⟨rfl, BX⟩ := hcut
        have WD11 := Aside0.mk (WD10.out.below BX.out)
        have GT11 := Aside0.mk (GT10.out.below BX.out)
        have EX11 := Aside0.mk (EX10.out.below BX.out)
        clear WD10 GT10 EX10 BX
        have o := EX11.out.o
        have i0 := (blk_cell o.box 0).trans (rfl : _ = some (Value.int .i64 a0_0))
        have i1 := (blk_cell o.box 1).trans (rfl : _ = some (Value.int .i64 a0_1))
        have i2 := (blk_cell o.box 2).trans (rfl : _ = some (Value.slice B2 l0_2.length d2))
        have i3 := (blk_cell o.box 3).trans (rfl : _ = some (Value.slice B3 t3.length d3))
        have i4 := (blk_cell o.box 4).trans (rfl : _ = some (Value.slice B4 l0_4.length d4))
        clear o
        have ck : decide (kx < 0) = false := decide_eq_false (by have := G.out.kx0; omega)
        have XM : Aside0 (∀ W, Ex g9 a0_0 a0_1 (.slice B2 l0_2.length d2) (.slice B3 t3.length d3) (.slice B4 l0_4.length d4) l0_2 t3 l0_4 N5 M7 W → Gt g10 g11 rT rE y2 y3 y4 rnow rheld rpins rcode y5 rpages M7 W → Wd w #[.int .i64 a0_0, .int .i64 a0_1, .slice A0_2 l0_2.length c0_2, .slice A0_3 l0_3.length c0_3, .slice A0_4 l0_4.length c0_4] #[.int .i64 a1_0, .int .i64 a1_1] g6 g7 rT rE v2 v3 v4 rnow rheld rpins rcode v5 rpages N5 W → Calls Try.prog 12 #[.agg #[.int .i64 a0_0, .int .i64 a0_1, .slice B2 l0_2.length d2, .slice B3 t3.length d3, .slice B4 l0_4.length d4], .int .i64 1] W fun e W' => e = .returned (.int .i64 kx) ∧ Gt g10 g11 rT rE y2 y3 y4 rnow rheld rpins rcode y5 rpages M7 W' ∧ Wd w #[.int .i64 a0_0, .int .i64 a0_1, .slice A0_2 l0_2.length c0_2, .slice A0_3 l0_3.length c0_3, .slice A0_4 l0_4.length c0_4] #[.int .i64 a1_0, .int .i64 a1_1] g6 g7 rT rE v2 v3 v4 rnow rheld rpins rcode v5 rpages N5 W') := ⟨fun W x g d => Ex.mark x g d k 1 kx x2 x3 x4 G.out.mX⟩
        go_upto_region 14 with (go_at_call 12; (with_reducible refine (XM.out _ EX11.out GT11.out WD11.out).mono ?_); rintro e W12 ⟨rfl, hg, hd⟩; have WD12 := Aside0.mk hd; have GT12 := Aside0.mk hg; clear hg hd)
        clear i0 i1 i2 i3 i4 WD11 GT11 EX11 XM
        obtain ⟨c0, c1, c2, c3, c4, c5, c6⟩ := CW.out _ WD12.out
        obtain ⟨e0, e1, e2, e3, e4, e5, e6⟩ := CG.out _ _ _ _ _ GT12.out
        go_upto_region 16 with (first
          | (go_at_call 10; (with_reducible refine (PS.out _ WD12.out GT12.out).mono ?_); rintro e W13 ⟨rfl, hB⟩; have WD13 := Aside0.mk (WD12.out.below hB); have GT13 := Aside0.mk (GT12.out.below hB); clear hB; obtain ⟨c0, c1, c2, c3, c4, c5, c6⟩ := CW.out _ WD13.out; obtain ⟨e0, e1, e2, e3, e4, e5, e6⟩ := CG.out _ _ _ _ _ GT13.out)
          | (go_at_call 11; (with_reducible refine (PR.out _ WD13.out GT13.out).mono ?_); rintro e W14 ⟨rfl, hB⟩; have WD14 := Aside0.mk (WD13.out.below hB); have GT14 := Aside0.mk (GT13.out.below hB); clear hB))
        clear WD12 GT12 WD13 GT13 PS PR c0 c1 c2 c3 c4 c5 c6 e0 e1 e2 e3 e4 e5 e6 ck
        have M0 : Aside0 (∀ W, Gt g10 g11 rT rE y2 y3 y4 rnow rheld rpins rcode y5 rpages M7 W → Wd w #[.int .i64 a0_0, .int .i64 a0_1, .slice A0_2 l0_2.length c0_2, .slice A0_3 l0_3.length c0_3, .slice A0_4 l0_4.length c0_4] #[.int .i64 a1_0, .int .i64 a1_1] g6 g7 rT rE v2 v3 v4 rnow rheld rpins rcode v5 rpages N5 W → Calls Try.prog 12 #[.agg #[.int .i64 rT, .int .i64 rE, y2, y3, y4], .int .i64 1] W fun e W' => e = .returned (.int .i64 m1) ∧ Gt g10 g11 rT rE y2 y3 y4 n' h' p' rcode y5 rpages M7 W' ∧ Wd w #[.int .i64 a0_0, .int .i64 a0_1, .slice A0_2 l0_2.length c0_2, .slice A0_3 l0_3.length c0_3, .slice A0_4 l0_4.length c0_4] #[.int .i64 a1_0, .int .i64 a1_1] g6 g7 rT rE v2 v3 v4 rnow rheld rpins rcode v5 rpages N5 W') := ⟨fun W g d => Gt.mark0 g d LE.out k 1 m1 n' h' p' G.out.mG⟩
        have M1 : Aside0 (∀ W, Gt g10 g11 rT rE y2 y3 y4 n' h' p' rcode y5 rpages M7 W → Wd w #[.int .i64 a0_0, .int .i64 a0_1, .slice A0_2 l0_2.length c0_2, .slice A0_3 l0_3.length c0_3, .slice A0_4 l0_4.length c0_4] #[.int .i64 a1_0, .int .i64 a1_1] g6 g7 rT rE v2 v3 v4 rnow rheld rpins rcode v5 rpages N5 W → Calls Try.prog 13 #[.agg #[.int .i64 rcode, y5], .int .i64 m1] W fun e W' => e = .returned (.int .i64 m2) ∧ Gt g10 g11 rT rE y2 y3 y4 n' h' p' rcode y5 pg' M7 W' ∧ Wd w #[.int .i64 a0_0, .int .i64 a0_1, .slice A0_2 l0_2.length c0_2, .slice A0_3 l0_3.length c0_3, .slice A0_4 l0_4.length c0_4] #[.int .i64 a1_0, .int .i64 a1_1] g6 g7 rT rE v2 v3 v4 rnow rheld rpins rcode v5 rpages N5 W') := ⟨fun W g d => Gt.mark1 g d LE.out k m1 m2 pg' G.out.mR⟩
        have H0 : Aside0 (∀ W, Gt g10 g11 rT rE y2 y3 y4 n' h' p' rcode y5 pg' M7 W → Calls Try.prog 14 #[.agg #[.int .i64 rT, .int .i64 rE, y2, y3, y4], .int .i64 1] W fun e W' => e = .returned (.int .i64 m1) ∧ Below W.heap.size W W') := ⟨fun W g => heldT k 1 m1 G.out.m10 g.t.o G.out.hG⟩
        have H1 : Aside0 (∀ W, Gt g10 g11 rT rE y2 y3 y4 n' h' p' rcode y5 pg' M7 W → Calls Try.prog 15 #[.agg #[.int .i64 rcode, y5], .int .i64 m1] W fun e W' => e = .returned (.int .i64 m2) ∧ Below W.heap.size W W') := ⟨fun W g => heldR k m1 m2 G.out.m20 g.t.r G.out.hR⟩
        have cm1 : decide (m1 < 0) = false := decide_eq_false (by have := G.out.m10; omega)
        have cm2 : decide (m2 < 0) = false := decide_eq_false (by have := G.out.m20; omega)
        have cm3 : (m2 != m2) = false := bne_self_eq_false m2
        obtain ⟨e0, e1, e2, e3, e4, e5, e6⟩ := CG.out _ _ _ _ _ GT14.out
        go_upto_region 19 with (first
          | (go_at_call 12; (with_reducible refine (M0.out _ GT14.out WD14.out).mono ?_); rintro e W15 ⟨rfl, hg, hd⟩; have WD15 := Aside0.mk hd; have GT15 := Aside0.mk hg; clear hg hd; obtain ⟨e0, e1, e2, e3, e4, e5, e6⟩ := CG.out _ _ _ _ _ GT15.out)
          | (go_at_call 13; (with_reducible refine (M1.out _ GT15.out WD15.out).mono ?_); rintro e W16 ⟨rfl, hg, hd⟩; have WD16 := Aside0.mk hd; have GT16 := Aside0.mk hg; clear hg hd))
        clear WD14 GT14 WD15 GT15 M0 M1 e0 e1 e2 e3 e4 e5 e6
        obtain ⟨e0, e1, e2, e3, e4, e5, e6⟩ := CG.out _ _ _ _ _ GT16.out
        go_upto_region 28 with (first
          | (go_at_call 14; (with_reducible refine (H0.out _ GT16.out).mono ?_); rintro e W17 ⟨rfl, hB⟩; have WD17 := Aside0.mk (WD16.out.below hB); have GT17 := Aside0.mk (GT16.out.below hB); clear hB; obtain ⟨e0, e1, e2, e3, e4, e5, e6⟩ := CG.out _ _ _ _ _ GT17.out)
          | (go_at_call 15; (with_reducible refine (H1.out _ GT17.out).mono ?_); rintro e W18 ⟨rfl, hB⟩; have WD18 := Aside0.mk (WD17.out.below hB); have GT18 := Aside0.mk (GT17.out.below hB); clear hB))
        clear WD16 GT16 WD17 GT17 e0 e1 e2 e3 e4 e5 e6
        refine R28.whole (p := ⟨a0_0, a0_1, .slice A0_2 l0_2.length c0_2, .slice A0_3 l0_3.length c0_3, .slice A0_4 l0_4.length c0_4, a1_0, a1_1, rT, rE, rcode, rerr, JA a0_0 a0_1 l0_2 t3 l0_4, JR (fun a b q => some q ≠ a.ownBlock ∧ some q ≠ b.ownBlock) W18.heap.size rnow rheld rpins rpages⟩) (ga := g2) (gb := g3) ⟨?ok, by rfl, by rfl, by rfl, ?ya, ?yb, ?c0, ?c1, ?c2, ?hp, ?hq⟩
        case ok => exact okJ (fun v W W' h hb => JA_below h hb) rfl
        case ya => exact fun W d => by obtain ⟨h0, h1, h2, h3, h4, h5, h6⟩ := AC.out W (WD18.out.below d).ar; exact ⟨h0, h1, h2, h3, h4⟩
        case yb => exact fun W d => by obtain ⟨h0, h1, h2, h3, h4, h5, h6⟩ := AC.out W (WD18.out.below d).ar; exact ⟨h5, h6⟩
        case c0 => exact fun W d => (TS.out W (below_step WD18.out.d d)).mono (by rintro e W' ⟨B2, d2, B3, d3, B4, d4, rfl, ht, hB⟩; exact ⟨_, rfl, ⟨_, _, _, rfl, ht.lower (Nat.zero_le _)⟩, hB⟩)
        case c1 => exact fun W d => TA.out W
        case c2 =>
          rintro v W d ⟨q2, q3, q4, rfl, t⟩
          obtain ⟨B2, d2, rfl⟩ := Kd.R_slice t.n
          obtain ⟨B3, d3, rfl⟩ := Kd.R_slice t.h
          obtain ⟨B4, d4, rfl⟩ := Kd.R_slice t.p
          refine (Istep.calls k a0_0 a0_1 B2 d2 l0_2 B3 d3 t3 B4 d4 l0_4 a1_0 a1_1 _ W (Kd.R_reads' t.n).2.2 (Kd.R_reads' t.n).2.1 (Kd.R_reads' t.h).2.2 (Kd.R_reads' t.h).2.1 (Kd.R_reads' t.p).2.2 (Kd.R_reads' t.p).2.1 G.out.impl).mono ?_
          rintro e W' ⟨u2, u3, u4, u5, rfl, ht, hr, hB⟩
          exact ⟨⟨u2, u3, u4, u5⟩, rfl, ⟨ht.lower d.size, Kd.R_lower hr d.size⟩, hB⟩
        case hp => exact fun _ _ _ _ _ h => h
        case hq =>
          rintro z3 ⟨q2, q3, q4, q5⟩ g16 g17 W19 d9 j9 l6 l7 b6 b7
          simp only [List.setIfInBounds_toArray, List.set_cons_zero, List.set_cons_succ, Dt.E]
          obtain ⟨jt, jr⟩ : JR (fun a b q => some q ≠ a.ownBlock ∧ some q ≠ b.ownBlock) W18.heap.size rnow rheld rpins rpages q2 q3 q4 q5 W19 := j9
          have OH : Aside0 (Own W18.heap.size g16 W19 rT rE q2 q3 q4 rnow rheld rpins) := ⟨⟨b6, l6, jt⟩⟩
          have RH := Aside0.mk jr
          have BH := Aside0.mk b7
          have WD19 := Aside0.mk (WD18.out.below d9)
          have GT19 := Aside0.mk (GT18.out.below d9)
          clear jt jr b6 b7 l6 l7 d9 WD18 GT18 TS TA
          obtain ⟨c0, c1, c2, c3, c4, c5, c6⟩ := CW.out _ WD19.out
          have o := OH.out
          have i0 := (blk_cell o.box 0).trans (rfl : _ = some (Value.int .i64 rT))
          have i1 := (blk_cell o.box 1).trans (rfl : _ = some (Value.int .i64 rE))
          have i2 := (blk_cell o.box 2).trans (rfl : _ = some q2)
          have i3 := (blk_cell o.box 3).trans (rfl : _ = some q3)
          have i4 := (blk_cell o.box 4).trans (rfl : _ = some q4)
          have i5 := (blk_cell BH.out 0).trans (rfl : _ = some (Value.int .i64 rcode))
          have i6 := (blk_cell BH.out 1).trans (rfl : _ = some q5)
          clear o
          go_upto_region 31 with (first
            | (go_at_call 10; (with_reducible refine (eqS k true OH.out WD19.out.t.o G.out.eqS).mono ?_); rintro e W20 ⟨rfl, hB⟩; have WD20 := Aside0.mk (WD19.out.below hB); have GT20 := Aside0.mk (GT19.out.below hB); have RH20 := Aside0.mk (Kd.R_below RH.out hB); have BH20 := Aside0.mk (blk_below BH.out hB); clear hB; obtain ⟨c0, c1, c2, c3, c4, c5, c6⟩ := CW.out _ WD20.out; have i5 := (blk_cell BH20.out 0).trans (rfl : _ = some (Value.int .i64 rcode)); have i6 := (blk_cell BH20.out 1).trans (rfl : _ = some q5))
            | (go_at_call 11; (with_reducible refine (eqR k true RH20.out WD20.out.t.r G.out.eqR).mono ?_); rintro e W21 ⟨rfl, hB⟩; have WD21 := Aside0.mk (WD20.out.below hB); have GT21 := Aside0.mk (GT20.out.below hB); clear hB))
          clear WD19 GT19 OH RH BH WD20 GT20 RH20 BH20 c0 c1 c2 c3 c4 c5 c6 i0 i1 i2 i3 i4 i5 i6
          obtain ⟨e0, e1, e2, e3, e4, e5, e6⟩ := CG.out _ _ _ _ _ GT21.out
          go_wp2_with (first
            | (go_at_call 14; (with_reducible refine (H0.out _ GT21.out).mono ?_); rintro e W22 ⟨rfl, hB⟩; have WD22 := Aside0.mk (WD21.out.below hB); have GT22 := Aside0.mk (GT21.out.below hB); clear hB; obtain ⟨e0, e1, e2, e3, e4, e5, e6⟩ := CG.out _ _ _ _ _ GT22.out)
            | (go_at_call 15; (with_reducible refine (H1.out _ GT22.out).mono ?_); rintro e W23 ⟨rfl, hB⟩; have WD23 := Aside0.mk (WD22.out.below hB); clear hB))
          go_ret
          exact ⟨rfl, WD23.out.d⟩
end Go.Proofs.Ytcnkacbgcmnokaa.XA
