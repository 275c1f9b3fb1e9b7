/- The program's act, where a pin is set, or there is no such act: walks. -/
import Derived.Test.YtcnkacbgcmnokaaRelsR
import Derived.Test.YtcnkacbgcmnokaaXRHCloneInt
import Derived.Deep.RegionLaw
namespace Go.Proofs.Ytcnkacbgcmnokaa.XR.Act
open Go Go.RowKit Go.Proofs.YtcnkacbgcmnokaaW.PrintWords Go.Proofs.YtcnkacbgcmnokaaW.PrintLast Go.Proofs.YtcnkacbgcmnokaaW.PrintMore Go.Proofs.Ytcnkacbgcmnokaa.XR Go.Proofs.Ytcnkacbgcmnokaa.XR.Room
set_option linter.unusedVariables false
set_option linter.unusedSimpArgs false
attribute [local go_sem] Go.Proofs.Ytcnkacbgcmnokaa.Xtra.binOp_gtr Go.Proofs.Ytcnkacbgcmnokaa.Xtra.binOp_leq Go.Proofs.Ytcnkacbgcmnokaa.Xtra.binOp_geq
theorem cell_far {W : World} {g i j : Nat} {u v : Value} (h : W.cell? ⟨g, i, none⟩ = some u) (hn : i ≠ j) : (W.setCell ⟨g, j, none⟩ v).cell? ⟨g, i, none⟩ = some u := by
  rw [World.cell?_setCell_other _ _ _ _ (fun e => by injection e with _ e2; exact hn e2.symm)]
  exact h
/-- What an act leaves and hands back. -/
def Done (w : World) (b gb : Nat) (vn vh vp : Value) (T E' : Int) (now' : List Int) (held' : List S74) (pins' : List Int) (code : Int) (pages : List Int) (e : Ending) (w' : World) : Prop :=
  ∃ vn' vh' vp' vr, e = .returned (.agg #[.int .i64 code, vr]) ∧ St w b gb vn vh vp w' T E' vn' vh' vp' now' held' pins' ∧ (Kd.int .i64).R 3 w' w.heap.size (fun k => some k ≠ vn'.ownBlock ∧ some k ≠ vh'.ownBlock ∧ some k ≠ vp'.ownBlock ∧ k ≠ gb) vr pages
section
variable {w W W' : World} {b gb : Nat} {vn0 vh0 vp0 vn vh vp : Value} {T E : Int} {now : List Int} {held : List S74} {pins : List Int}
theorem cells (s : St w b gb vn0 vh0 vp0 W T E vn vh vp now held pins) : W.cell? ⟨gb, 0, none⟩ = some (.int .i64 T) ∧ W.cell? ⟨gb, 1, none⟩ = some (.int .i64 E) ∧ W.cell? ⟨gb, 2, none⟩ = some vn ∧ W.cell? ⟨gb, 3, none⟩ = some vh ∧ W.cell? ⟨gb, 4, none⟩ = some vp :=
  ⟨(blk_cell s.o.box 0).trans rfl, (blk_cell s.o.box 1).trans rfl, (blk_cell s.o.box 2).trans rfl, (blk_cell s.o.box 3).trans rfl, (blk_cell s.o.box 4).trans rfl⟩
/-- Behind a store into a box of the call's own. -/
theorem St.own (s : St w b gb vn0 vh0 vp0 W T E vn vh vp now held pins) {g t : Nat} {cs : Array Value} (hb : W.heap[g]? = some (.cells cs t (0, 0))) (hw : w.heap.size ≤ g) (hbw : b ≤ w.heap.size) (h1 : 3 ≠ t) (h2 : 74 ≠ t) (h3 : gb ≠ g) (j : Nat) (u : Value) :
    St w b gb vn0 vh0 vp0 (W.setCell ⟨g, j, none⟩ u) T E vn vh vp now held pins := by
  have o2 : Own b gb (W.setCell ⟨g, j, none⟩ u) T E vn vh vp now held pins := ⟨blk_far s.o.box h3 _, s.o.hg, s.o.r.set hb h1 h2 j u⟩
  refine ⟨o2, s.d.setCell (p := ⟨g, j, none⟩) (Nat.le_trans hbw hw) _, ⟨Nat.le_trans s.k.1 (set_kept W g j u (fun _ => True) trivial).1, fun i hi hn => ((set_kept W g j u (fun k => k = g) rfl).2 i (Nat.lt_of_lt_of_le hi s.k.1) (fun e => ?_)).trans (s.k.2 i hi hn)⟩, s.mn, s.mh, s.mp⟩
  exact Nat.lt_irrefl _ (Nat.lt_of_lt_of_le hi (e ▸ hw))
end
/-- The call's own boxes: the act, the reply. -/
structure Bx (w : World) (b gb ga gr : Nat) (kind n : Int) (W : World) : Prop where
  a : W.heap[ga]? = some (.cells #[.int .i64 kind, .int .i64 n] 37 (0, 0))
  r : W.heap[gr]? = some (.cells #[.int .i64 0, .slice none 0 0] 33 (0, 0))
  la : w.heap.size ≤ ga
  lr : w.heap.size ≤ gr
  n1 : gb ≠ gr
  lt : gb < w.heap.size
section
variable {w W W' : World} {b gb ga gr : Nat} {kind n : Int}
theorem Bx.step (x : Bx w b gb ga gr kind n W) (h1 : W'.heap[ga]? = W.heap[ga]?) (h2 : W'.heap[gr]? = W.heap[gr]?) : Bx w b gb ga gr kind n W' := ⟨h1.trans x.a, h2.trans x.r, x.la, x.lr, x.n1, x.lt⟩
theorem Bx.below (x : Bx w b gb ga gr kind n W) (h : Below W.heap.size W W') : Bx w b gb ga gr kind n W' := x.step (h.block _ (blk_lt x.a)) (h.block _ (blk_lt x.r))
theorem Bx.set (x : Bx w b gb ga gr kind n W) (j : Nat) (u : Value) : Bx w b gb ga gr kind n (W.setCell ⟨gb, j, none⟩ u) :=
  x.step (Below.heap_setCell W ⟨gb, j, none⟩ u ga (fun e => Nat.lt_irrefl _ (Nat.lt_of_lt_of_le x.lt (Nat.le_trans x.la (Nat.le_of_eq e))))) (Below.heap_setCell W ⟨gb, j, none⟩ u gr (fun e => x.n1 e.symm))
theorem Bx.row {α : Type} {d : Kd α} {e : Nat} {ok : Nat → Prop} {v : Value} {xs : List α} (x : Bx w b gb ga gr kind n W) (hr : d.R e W b ok v xs) (h1 : e ≠ 37) (h2 : e ≠ 33) (h : Kept W W' (fun k => some k = v.ownBlock)) : Bx w b gb ga gr kind n W' :=
  x.step (h.2 _ (blk_lt x.a) (Kd.R_ne hr x.a h1)) (h.2 _ (blk_lt x.r) (Kd.R_ne hr x.r h2))
theorem Bx.kept (x : Bx w b gb ga gr kind n W) {S : Nat → Prop} (h : Kept W W' S) (h1 : ¬ S ga) (h2 : ¬ S gr) : Bx w b gb ga gr kind n W' := x.step (h.2 _ (blk_lt x.a) h1) (h.2 _ (blk_lt x.r) h2)
end
theorem reply {W : World} {gr : Nat} (h : W.heap[gr]? = some (.cells #[.int .i64 0, .slice none 0 0] 33 (0, 0))) (code : Int) (v : Value) : ((W.setCell ⟨gr, 0, none⟩ (.int .i64 code)).setCell ⟨gr, 1, none⟩ v).heap[gr]? = some (.cells #[.int .i64 code, v] 33 (0, 0)) := blk_put (blk_put h 0 _ rfl) 1 _ rfl
theorem fin {w W : World} {b gb ga gr : Nat} {kind n : Int} {vn0 vh0 vp0 vn vh vp : Value} {T E : Int} {now : List Int} {held : List S74} {pins : List Int} (hb : b ≤ w.heap.size) (s : St w b gb vn0 vh0 vp0 W T E vn vh vp now held pins) (x : Bx w b gb ga gr kind n W) (code : Int) (v : Value) (pages : List Int) (hr : (Kd.int .i64).R 3 W w.heap.size (fun k => some k ≠ vn.ownBlock ∧ some k ≠ vh.ownBlock ∧ some k ≠ vp.ownBlock ∧ k ≠ gb) v pages) :
    Done w b gb vn0 vh0 vp0 T E now held pins code pages (.returned (.agg #[.int .i64 code, v])) ((W.setCell ⟨gr, 0, none⟩ (.int .i64 code)).setCell ⟨gr, 1, none⟩ v) := by
  have h1 := blk_put x.r 0 (.int .i64 code) rfl
  exact ⟨vn, vh, vp, v, rfl, St.own (St.own s x.r x.lr hb (by decide) (by decide) x.n1 0 _) h1 x.lr hb (by decide) (by decide) x.n1 1 _, Kd.R_set (Kd.R_set hr x.r (by decide) 0 _) h1 (by decide) 1 _⟩
theorem begin_ {w : World} {b gb : Nat} {vn vh vp : Value} {T E : Int} {now : List Int} {held : List S74} {pins : List Int} (kind n : Int) (hb : b ≤ w.heap.size) (o : Own b gb w T E vn vh vp now held pins) :
    St w b gb vn vh vp ((w.alloc (.cells #[.int .i64 kind, .int .i64 n] 37)).alloc (.cells #[.int .i64 0, .slice none 0 0] 33)) T E vn vh vp now held pins ∧ Bx w b gb w.heap.size (w.heap.size + 1) kind n ((w.alloc (.cells #[.int .i64 kind, .int .i64 n] 37)).alloc (.cells #[.int .i64 0, .slice none 0 0] 33)) := by
  have h := blk_new (w.alloc (.cells #[.int .i64 kind, .int .i64 n] 37)) (.cells #[.int .i64 0, .slice none 0 0] 33)
  rw [World.size_alloc] at h
  have hl := blk_lt o.box
  exact ⟨(St.start o).below hb (below_alloc (below_alloc (Below.refl _ _) _) _), ⟨blk_alloc (blk_new _ _) _, h, Nat.le_refl _, Nat.le_succ _, by omega, hl⟩⟩
set_option maxHeartbeats 4000000 in
theorem other (b gb : Nat) (w : World) (T E : Int) (vn vh vp : Value) (now : List Int) (held : List S74) (pins : List Int) (kind n : Int) (hb : b ≤ w.heap.size) (o : Own b gb w T E vn vh vp now held pins) (h1 : kind ≠ 1) (h2 : kind ≠ 2) (h3 : kind ≠ 3) :
    Calls Try.prog 34 #[.pointer (some ⟨gb, 0, none⟩), .agg #[.int .i64 kind, .int .i64 n]] w (Done w b gb vn vh vp T E now held pins 3 []) := by
  have hu33 := Try.underlying33
  have hu37 := Try.underlying37
  have S0 := Aside0.mk (begin_ kind n hb o)
  have c1 : (kind == 1) = false := by simpa using h1
  have c2 : (kind == 2) = false := by simpa using h2
  have c3 : (kind == 3) = false := by simpa using h3
  clear h1 h2 h3 o
  go_enter Try.func34, Try.ntmps34
  go_upto_region 29 with (fail)
  generalize (w.alloc (.cells #[.int .i64 kind, .int .i64 n] 37)).alloc (.cells #[.int .i64 0, .slice none 0 0] 33) = W at S0 ⊢
  generalize w.heap.size + 1 = gr at S0 ⊢
  have hf := blk_frozen S0.out.2.r
  have hz0 := (blk_cell S0.out.2.r 0).trans (rfl : _ = some (Value.int .i64 0))
  have hz1 := (blk_cell S0.out.2.r 1).trans (rfl : _ = some (Value.slice none 0 0))
  go_wp2
  refine bodyPost_ret (results_cell_row rfl _ _ gr 33 #[.int .i64 3, .slice none 0 0] (0, 0) _ rfl (reply S0.out.2.r 3 _) Try.underlying33 rfl (by kernel_rfl)) rfl ?_
  exact fin hb S0.out.1 S0.out.2 3 _ [] (Kd.R_nil _ _ _ _ _)
set_option maxHeartbeats 4000000 in
theorem pinFull (b gb : Nat) (w : World) (T E : Int) (vn vh vp : Value) (now : List Int) (held : List S74) (pins : List Int) (n : Int) (hb : b ≤ w.heap.size) (o : Own b gb w T E vn vh vp now held pins) (h1 : 4 ≤ pins.length) :
    Calls Try.prog 34 #[.pointer (some ⟨gb, 0, none⟩), .agg #[.int .i64 2, .int .i64 n]] w (Done w b gb vn vh vp T E now held pins 7 []) := by
  obtain ⟨Ap, cp, rfl⟩ := Kd.R_slice o.r.p
  have hu31 := Try.underlying31
  have hu33 := Try.underlying33
  have hu37 := Try.underlying37
  have S0 := Aside0.mk (begin_ 2 n hb o)
  have c1 : decide ((pins.length : Int) ≥ 4) = true := decide_eq_true (by omega)
  clear h1 o
  go_enter Try.func34, Try.ntmps34
  go_upto_region 19 with (fail)
  generalize (w.alloc (.cells #[.int .i64 2, .int .i64 n] 37)).alloc (.cells #[.int .i64 0, .slice none 0 0] 33) = W at S0 ⊢
  generalize w.heap.size + 1 = gr at S0 ⊢
  have hf := blk_frozen S0.out.2.r
  have hz0 := (blk_cell S0.out.2.r 0).trans (rfl : _ = some (Value.int .i64 0))
  have hz1 := (blk_cell S0.out.2.r 1).trans (rfl : _ = some (Value.slice none 0 0))
  have hc4 := (cells S0.out.1).2.2.2.2
  go_wp2
  refine bodyPost_ret (results_cell_row rfl _ _ gr 33 #[.int .i64 7, .slice none 0 0] (0, 0) _ rfl (reply S0.out.2.r 7 _) Try.underlying33 rfl (by kernel_rfl)) rfl ?_
  exact fin hb S0.out.1 S0.out.2 7 _ [] (Kd.R_nil _ _ _ _ _)
theorem fresh {w W W1 : World} {b gb : Nat} {vn0 vh0 vp0 vn vh vp v : Value} {T E : Int} {now l : List Int} {held : List S74} {pins : List Int} (s : St w b gb vn0 vh0 vp0 W T E vn vh vp now held pins) (hr : (Kd.int .i64).R 3 W1 W.heap.size (fun _ => True) v l) : (Kd.int .i64).R 3 W1 w.heap.size (fun k => some k ≠ vn.ownBlock ∧ some k ≠ vh.ownBlock ∧ some k ≠ vp.ownBlock ∧ k ≠ gb) v l := by
  refine Kd.R_lower (Kd.R_mono (Kd.R_tight rfl hr) (fun k hk => ?_)) s.k.1
  have hge := Kd.R_base hr k hk.symm
  refine ⟨fun e => ?_, fun e => ?_, fun e => ?_, fun e => ?_⟩
  · exact Nat.lt_irrefl _ (Nat.lt_of_lt_of_le (Kd.R_lt s.o.r.n k e.symm) hge)
  · exact Nat.lt_irrefl _ (Nat.lt_of_lt_of_le (Kd.R_lt s.o.r.h k e.symm) hge)
  · exact Nat.lt_irrefl _ (Nat.lt_of_lt_of_le (Kd.R_lt s.o.r.p k e.symm) hge)
  · subst e; exact Nat.lt_irrefl _ (Nat.lt_of_lt_of_le (blk_lt s.o.box) hge)
set_option maxHeartbeats 8000000 in
set_option maxRecDepth 100000 in
theorem pin (b gb : Nat) (w : World) (T E : Int) (vn vh vp : Value) (now : List Int) (held : List S74) (pins : List Int) (n : Int) (hb : b ≤ w.heap.size) (o : Own b gb w T E vn vh vp now held pins) (h1 : pins.length < 4) (h2 : now.length < 1099511627776) :
    Calls Try.prog 34 #[.pointer (some ⟨gb, 0, none⟩), .agg #[.int .i64 2, .int .i64 n]] w (Done w b gb vn vh vp T E now held (pins ++ [E]) 0 now) := by
  obtain ⟨Ap, cp, rfl⟩ := Kd.R_slice o.r.p
  obtain ⟨An, cn, rfl⟩ := Kd.R_slice o.r.n
  have hu31 := Try.underlying31
  have hu33 := Try.underlying33
  have hu37 := Try.underlying37
  have S0 := Aside0.mk (begin_ 2 n hb o)
  have c1 : decide ((pins.length : Int) ≥ 4) = false := decide_eq_false (by omega)
  have HL := Aside0.mk h1
  have HN := Aside0.mk h2
  clear h1 h2 o
  go_enter Try.func34, Try.ntmps34
  go_upto_region 19 with (fail)
  generalize (w.alloc (.cells #[.int .i64 2, .int .i64 n] 37)).alloc (.cells #[.int .i64 0, .slice none 0 0] 33) = W at S0 ⊢
  generalize w.heap.size + 1 = gr at S0 ⊢
  have hc4 := (cells S0.out.1).2.2.2.2
  have hc1 := (cells S0.out.1).2.1
  go_upto_region 21 with (fail)
  go_cut [] (fun wx => ∃ vp', Aside0 (St w b gb (.slice An now.length cn) vh (.slice Ap pins.length cp) wx T E (.slice An now.length cn) vh vp' now held (pins ++ [E])) ∧ Aside0 (Bx w b gb w.heap.size gr 2 n wx))
  case first =>
    have hd4 := (blk_cell (blk_alloc S0.out.1.o.box (.cells #[.int .i64 E] 3)) 4).trans (rfl : _ = some (Value.slice Ap pins.length cp))
    go_region_law (refine Kd.R_append_step (W := W.drew) (Kd.int .i64) (w0 := W) b (by rfl) (.tmp 102) (.tmp 107) 22 3 (.int .i64 0) 8 rfl Try.underlying22 info3 rfl (by decide) (by omega) (.slice Ap pins.length cp) pins E [.int .i64 E] (fun _ => True) (fun _ => False) rfl rfl ?aP (fun _ h => h.elim) ?aF ?aO ?aB ?aS ?aL ?_; (case aP => exact rfl); (case aF => exact (fun _ _ => trivial)); (case aO => exact (by (with_reducible repeat (first | apply Kd.R_alloc | apply Kd.R_drewN | apply Kd.R_drew)); exact S0.out.1.o.r.p)); (case aB => exact (by repeat (first | exact Below.refl _ _ | apply pw_below_drewN | apply below_drew1))); (case aS => exact Nat.le_trans hb S0.out.1.k.1); (case aL => have := HL.out; omega); intro v1 w1 ho hB hg hat; obtain ⟨A1, d1, e1⟩ := Kd.R_slice ho; generalize List.length _ = n1 at e1; subst e1; have hbx := blk_grown (blk_drew S0.out.1.o.box) hg (Kd.R_ne S0.out.1.o.r.p S0.out.1.o.box (by decide)); have hz4 := (blk_cell hbx 4).trans (rfl : _ = some (Value.slice Ap pins.length cp)); have hf4 := blk_frozen hbx 4; have AP := Aside0.mk (And.intro ho (And.intro hB (And.intro hg hat))); clear ho hB hg hat hbx)
    all_goals (go_wp2_with fail; go_meet; exact ⟨_, ⟨S0.out.1.toPins AP.out.1 AP.out.2.1 (grown_kept' AP.out.2.2.1) (Move.hat AP.out.2.2.2)⟩, ⟨(S0.out.2.row S0.out.1.o.r.p (by decide) (by decide) (grown_kept' AP.out.2.2.1)).set 4 _⟩⟩)
  case rest =>
    clear hc4 hc1 S0
    obtain ⟨vp', HS, HX⟩ := hcut
    have hc2 := (cells HS.out).2.2.1
    go_wp2_with (go_at_call 57; (with_reducible refine (slices_Clone_int_int.calls An cn now now _ ?hr ?hc ?hh).mono ?_); (case hr => exact (Kd.R_reads' HS.out.o.r.n).2.2); (case hc => exact (Kd.R_reads' HS.out.o.r.n).2.1); (case hh => unfold slices_Clone_int_int.f; rw [if_pos HN.out]); rintro e w4 ⟨v4, rfl, hr, hB⟩; obtain ⟨A4, c4, e4⟩ := Kd.R_slice hr; subst e4; have HR := Aside0.mk (fresh HS.out hr); have HS4 := Aside0.mk (HS.out.below (Nat.le_trans hb HS.out.k.1) hB); have HX4 := Aside0.mk (HX.out.below hB); clear hr hB; have hf := blk_frozen HX4.out.r; have hz0 := (blk_cell HX4.out.r 0).trans (rfl : _ = some (Value.int .i64 0)); have hz1 := (blk_cell HX4.out.r 1).trans (rfl : _ = some (Value.slice none 0 0)))
    refine bodyPost_ret (results_cell_row rfl _ _ gr 33 #[.int .i64 0, .slice A4 now.length c4] (0, 0) _ rfl (reply HX4.out.r 0 _) Try.underlying33 rfl (by kernel_rfl)) rfl ?_
    exact fin hb HS4.out HX4.out 0 _ now HR.out
end Go.Proofs.Ytcnkacbgcmnokaa.XR.Act
