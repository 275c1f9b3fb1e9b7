/- The law of one step: what its worlds keep; plain lemmas. -/
import Derived.Test.YtcnkacbgcmnokaaStz
import Derived.Test.YtcnkacbgcmnokaaTospA
import Derived.Test.YtcnkacbgcmnokaaXA2
import Derived.Test.YtcnkacbgcmnokaaXA3
import Derived.Deep.RegionLaw
namespace Go.Proofs.Ytcnkacbgcmnokaa.XA.Law
open Go Go.RowKit Go.Proofs.YtcnkacbgcmnokaaW.PrintWords Go.Proofs.YtcnkacbgcmnokaaW.PrintLast Go.Proofs.YtcnkacbgcmnokaaW.PrintMore Go.Proofs.Ytcnkacbgcmnokaa.XA Go.Proofs.Ytcnkacbgcmnokaa.XA.Room
set_option linter.unusedVariables false
set_option linter.unusedSimpArgs false
section
variable {b g g' : Nat} {w W W' : World} {T E code : Int} {vn vh vp vr : Value} {now pins pages : List Int} {held : List S74}
theorem hold {α : Type} {d : Kd α} {e : Nat} {ok : Nat → Prop} {v : Value} {l : List α} (hE : d.E = []) (h : d.R e W b ok v l) (hm : ∀ k, v.ownBlock = some k → W'.heap[k]? = W.heap[k]?) : d.R e W' b ok v l :=
  Kd.R_reok hE (Kd.R_move (Kd.R_tight hE h) (fun k hk => hm k hk.symm)) h.1
theorem Trio_hold (t : Trio b W vn vh vp now held pins) (hm : ∀ k, vn.ownBlock = some k ∨ vh.ownBlock = some k ∨ vp.ownBlock = some k → W'.heap[k]? = W.heap[k]?) : Trio b W' vn vh vp now held pins :=
  ⟨hold rfl t.n (fun k hk => hm k (.inl hk)), hold rfl t.h (fun k hk => hm k (.inr (.inl hk))), hold rfl t.p (fun k hk => hm k (.inr (.inr hk)))⟩
theorem Own_hold (o : Own b g W T E vn vh vp now held pins) (hm : ∀ k, k = g ∨ vn.ownBlock = some k ∨ vh.ownBlock = some k ∨ vp.ownBlock = some k → W'.heap[k]? = W.heap[k]?) : Own b g W' T E vn vh vp now held pins :=
  ⟨(hm g (.inl rfl)).trans o.box, o.hg, Trio_hold o.r (fun k hk => hm k (.inr hk))⟩
theorem Own_lt (o : Own b g W T E vn vh vp now held pins) : ∀ k, k = g ∨ vn.ownBlock = some k ∨ vh.ownBlock = some k ∨ vp.ownBlock = some k → k < W.heap.size := by
  rintro k (rfl | h | h | h)
  · exact blk_lt o.box
  · exact Kd.R_lt o.r.n k h
  · exact Kd.R_lt o.r.h k h
  · exact Kd.R_lt o.r.p k h
theorem Own_ge (o : Own b g W T E vn vh vp now held pins) : ∀ k, k = g ∨ vn.ownBlock = some k ∨ vh.ownBlock = some k ∨ vp.ownBlock = some k → b ≤ k := by
  rintro k (rfl | h | h | h)
  · exact o.hg
  · exact Kd.R_base o.r.n k h
  · exact Kd.R_base o.r.h k h
  · exact Kd.R_base o.r.p k h
theorem Own_lower {b' : Nat} (o : Own b g W T E vn vh vp now held pins) (h : b' ≤ b) : Own b' g W T E vn vh vp now held pins := ⟨o.box, Nat.le_trans h o.hg, o.r.lower h⟩
/-- A space and a reply, each in its box. -/
structure Duo (b g g' : Nat) (W : World) (T E : Int) (vn vh vp : Value) (now : List Int) (held : List S74) (pins : List Int) (code : Int) (vr : Value) (pages : List Int) : Prop where
  o : Own b g W T E vn vh vp now held pins
  b' : W.heap[g']? = some (.cells #[.int .i64 code, vr] 33 (0, 0))
  r : (Kd.int .i64).R 3 W b (fun _ => True) vr pages
  l' : b ≤ g'
theorem Duo.hold (H : Duo b g g' W T E vn vh vp now held pins code vr pages) (hm : ∀ k, (k = g ∨ vn.ownBlock = some k ∨ vh.ownBlock = some k ∨ vp.ownBlock = some k) ∨ k = g' ∨ vr.ownBlock = some k → W'.heap[k]? = W.heap[k]?) : Duo b g g' W' T E vn vh vp now held pins code vr pages :=
  ⟨Own_hold H.o (fun k hk => hm k (.inl hk)), (hm g' (.inr (.inl rfl))).trans H.b', Law.hold rfl H.r (fun k hk => hm k (.inr (.inr hk))), H.l'⟩
theorem Duo.lt (H : Duo b g g' W T E vn vh vp now held pins code vr pages) : ∀ k, (k = g ∨ vn.ownBlock = some k ∨ vh.ownBlock = some k ∨ vp.ownBlock = some k) ∨ k = g' ∨ vr.ownBlock = some k → k < W.heap.size := by
  rintro k (h | rfl | h)
  · exact Own_lt H.o k h
  · exact blk_lt H.b'
  · exact Kd.R_lt H.r k h
theorem Duo.ge (H : Duo b g g' W T E vn vh vp now held pins code vr pages) : ∀ k, (k = g ∨ vn.ownBlock = some k ∨ vh.ownBlock = some k ∨ vp.ownBlock = some k) ∨ k = g' ∨ vr.ownBlock = some k → b ≤ k := by
  rintro k (h | rfl | h)
  · exact Own_ge H.o k h
  · exact H.l'
  · exact Kd.R_base H.r k h
theorem Duo.below (H : Duo b g g' W T E vn vh vp now held pins code vr pages) (h : Below W.heap.size W W') : Duo b g g' W' T E vn vh vp now held pins code vr pages := H.hold (fun k hk => h.block k (H.lt k hk))
/-- The two results, put into new boxes. -/
theorem Duo.made (t : Trio b W vn vh vp now held pins) (r : (Kd.int .i64).R 3 W b (fun _ => True) vr pages) (hb : b ≤ W.heap.size) :
    Duo b W.heap.size (W.heap.size + 1) ((W.alloc (.cells #[.int .i64 T, .int .i64 E, vn, vh, vp] 31)).alloc (.cells #[.int .i64 code, vr] 33)) T E vn vh vp now held pins code vr pages := by
  have h1 := blk_new W (.cells #[.int .i64 T, .int .i64 E, vn, vh, vp] 31)
  have h2 := blk_new (W.alloc (.cells #[.int .i64 T, .int .i64 E, vn, vh, vp] 31)) (.cells #[.int .i64 code, vr] 33)
  rw [World.size_alloc] at h2
  have B : Below W.heap.size W ((W.alloc (.cells #[.int .i64 T, .int .i64 E, vn, vh, vp] 31)).alloc (.cells #[.int .i64 code, vr] 33)) := below_alloc (below_alloc (Below.refl _ _) _) _
  exact ⟨⟨blk_alloc h1 _, hb, t.below B⟩, h2, Kd.R_below r B, Nat.le_succ_of_le hb⟩
/-- The arguments' boxes and what is wanted: all of it lies below N. -/
structure Wd (w : World) (ca cb : Array Value) (g g' : Nat) (T E : Int) (vn vh vp : Value) (now : List Int) (held : List S74) (pins : List Int) (code : Int) (vr : Value) (pages : List Int) (N : Nat) (W : World) : Prop where
  a : W.heap[w.heap.size]? = some (.cells ca 25 (0, 0))
  c : W.heap[w.heap.size + 1]? = some (.cells cb 27 (0, 0))
  t : Duo 0 g g' W T E vn vh vp now held pins code vr pages
  u : ∀ k, (k = g ∨ vn.ownBlock = some k ∨ vh.ownBlock = some k ∨ vp.ownBlock = some k) ∨ k = g' ∨ vr.ownBlock = some k → k < N
  la : w.heap.size + 1 < N
  lN : N ≤ W.heap.size
  d : Below w.heap.size w W
/-- The arguments' boxes. -/
structure Ar (w : World) (ca cb : Array Value) (W : World) : Prop where
  a : W.heap[w.heap.size]? = some (.cells ca 25 (0, 0))
  c : W.heap[w.heap.size + 1]? = some (.cells cb 27 (0, 0))
  d : Below w.heap.size w W
variable {ca cb : Array Value} {N : Nat} {S : Nat → Prop}
theorem blk_ne {V : World} {x y t1 t2 : Nat} {c1 c2 : Array Value} (h1 : V.heap[x]? = some (.cells c1 t1 (0, 0))) (h2 : V.heap[y]? = some (.cells c2 t2 (0, 0))) (ht : t1 ≠ t2) : ¬ x = y := fun e => by
  subst e
  rw [h1] at h2
  injection h2 with h2
  injection h2 with _ h2
  exact ht h2
theorem Ar.start (w : World) (ca cb : Array Value) : Ar w ca cb ((w.alloc (.cells ca 25)).alloc (.cells cb 27)) := by
  have h1 := blk_new w (.cells ca 25)
  have h2 := blk_new (w.alloc (.cells ca 25)) (.cells cb 27)
  rw [World.size_alloc] at h2
  exact ⟨blk_alloc h1 _, h2, below_alloc (below_alloc (Below.refl _ _) _) _⟩
theorem Ar.below (H : Ar w ca cb W) (h : Below W.heap.size W W') : Ar w ca cb W' := ⟨blk_below H.a h, blk_below H.c h, H.d.trans (h.mono H.d.size)⟩
theorem Ar.alloc (H : Ar w ca cb W) (o : Obj) : Ar w ca cb (W.alloc o) := H.below (below_alloc (Below.refl _ _) _)
theorem Ar.drew (H : Ar w ca cb W) : Ar w ca cb W.drew := H.below (below_drew (Below.refl _ _))
theorem Ar.set (H : Ar w ca cb W) {x : Nat} (h : w.heap.size + 1 < x) (j : Nat) (u : Value) : Ar w ca cb (W.setCell ⟨x, j, none⟩ u) :=
  ⟨blk_far H.a (fun e => by subst e; exact Nat.lt_irrefl _ (Nat.lt_trans (Nat.lt_succ_self _) h)) _, blk_far H.c (fun e => by subst e; exact Nat.lt_irrefl _ h) _, H.d.setCell (p := ⟨x, j, none⟩) (Nat.le_of_lt (Nat.lt_of_succ_lt h)) _⟩
theorem Wd.ar (H : Wd w ca cb g g' T E vn vh vp now held pins code vr pages N W) : Ar w ca cb W := ⟨H.a, H.c, H.d⟩
theorem Wd.start (A : Ar w ca cb W) (H : Duo b g g' W T E vn vh vp now held pins code vr pages) : Wd w ca cb g g' T E vn vh vp now held pins code vr pages W.heap.size W :=
  ⟨A.a, A.c, ⟨Own_lower H.o (Nat.zero_le _), H.b', Kd.R_lower H.r (Nat.zero_le _), Nat.zero_le _⟩, H.lt, blk_lt A.c, Nat.le_refl _, A.d⟩
theorem Wd.kept (H : Wd w ca cb g g' T E vn vh vp now held pins code vr pages N W) (h : Kept W W' S) (hS : ∀ k, S k → N ≤ k) (hd : Below w.heap.size w W') : Wd w ca cb g g' T E vn vh vp now held pins code vr pages N W' := by
  have hk : ∀ k, k < N → W'.heap[k]? = W.heap[k]? := fun k hl => h.2 k (Nat.lt_of_lt_of_le hl H.lN) (fun hs => Nat.lt_irrefl _ (Nat.lt_of_lt_of_le hl (hS k hs)))
  exact ⟨(hk _ (Nat.lt_of_succ_lt H.la)).trans H.a, (hk _ H.la).trans H.c, H.t.hold (fun k q => hk k (H.u k q)), H.u, H.la, Nat.le_trans H.lN h.1, hd⟩
theorem Wd.below (H : Wd w ca cb g g' T E vn vh vp now held pins code vr pages N W) (h : Below W.heap.size W W') : Wd w ca cb g g' T E vn vh vp now held pins code vr pages N W' := H.kept (Kept.of_below h (fun _ => False)) (fun _ hk => hk.elim) (H.d.trans (h.mono H.d.size))
/-- The results: all of it lies from N on, and the rows lie apart. -/
structure Gt (g g' : Nat) (T E : Int) (vn vh vp : Value) (now : List Int) (held : List S74) (pins : List Int) (code : Int) (vr : Value) (pages : List Int) (N : Nat) (W : World) : Prop where
  t : Duo N g g' W T E vn vh vp now held pins code vr pages
  x : ∀ k, vr.ownBlock = some k → some k ≠ vn.ownBlock ∧ some k ≠ vp.ownBlock
  lN : N ≤ W.heap.size
theorem Gt.kept (H : Gt g g' T E vn vh vp now held pins code vr pages N W) (h : Kept W W' S) (hS : ∀ k, S k → k < N) : Gt g g' T E vn vh vp now held pins code vr pages N W' :=
  ⟨H.t.hold (fun k q => h.2 k (H.t.lt k q) (fun hs => Nat.lt_irrefl _ (Nat.lt_of_lt_of_le (hS k hs) (H.t.ge k q)))), H.x, Nat.le_trans H.lN h.1⟩
theorem Gt.below (H : Gt g g' T E vn vh vp now held pins code vr pages N W) (h : Below W.heap.size W W') : Gt g g' T E vn vh vp now held pins code vr pages N W' := H.kept (Kept.of_below h (fun _ => False)) (fun _ hk => hk.elim)
/-- The copy that is handed over: it lies from N on, below M. -/
structure Ex (g : Nat) (T E : Int) (vn vh vp : Value) (now : List Int) (held : List S74) (pins : List Int) (N M : Nat) (W : World) : Prop where
  o : Own N g W T E vn vh vp now held pins
  u : ∀ k, k = g ∨ vn.ownBlock = some k ∨ vh.ownBlock = some k ∨ vp.ownBlock = some k → k < M
theorem Ex.below {M : Nat} (H : Ex g T E vn vh vp now held pins N M W) (h : Below W.heap.size W W') : Ex g T E vn vh vp now held pins N M W' := ⟨H.o.below h, H.u⟩
theorem Ex.start (t : Trio b W vn vh vp now held pins) (hb : b ≤ W.heap.size) : Ex W.heap.size T E vn vh vp now held pins b (W.alloc (.cells #[.int .i64 T, .int .i64 E, vn, vh, vp] 31)).heap.size (W.alloc (.cells #[.int .i64 T, .int .i64 E, vn, vh, vp] 31)) := by
  have o : Own b W.heap.size (W.alloc (.cells #[.int .i64 T, .int .i64 E, vn, vh, vp] 31)) T E vn vh vp now held pins := ⟨blk_new W _, hb, t.below (below_alloc (Below.refl _ _) _)⟩
  exact ⟨o, Own_lt o⟩
end
section
variable {b g b2 g2 : Nat} {w W : World} {T E T2 E2 : Int} {vn vh vp vn2 vh2 vp2 : Value} {now pins now2 pins2 : List Int} {held held2 : List S74}
/-- A space is marked. -/
theorem mark (k : Nat) (a r1 : Int) (n' : List Int) (h' : List S74) (p' : List Int) (o : Own b g W T E vn vh vp now held pins) (d : Below w.heap.size w W) (hb : w.heap.size ≤ b) (h : laws_markSpace.f k T E now held pins a = some (r1, n', h', p')) :
    Calls Try.prog 12 #[.agg #[.int .i64 T, .int .i64 E, vn, vh, vp], .int .i64 a] W fun e W' => e = .returned (.int .i64 r1) ∧ Own b g W' T E vn vh vp n' h' p' ∧ Below w.heap.size w W' ∧ Kept W W' (fun q => vn.ownBlock = some q ∨ vh.ownBlock = some q ∨ vp.ownBlock = some q) := by
  refine (laws_markSpace.calls k T E (fun q => vn.ownBlock = some q) vn now (fun q => vh.ownBlock = some q) vh held (fun q => vp.ownBlock = some q) vp pins a r1 n' h' p' w W d (Kd.R_lower (Kd.R_reok rfl o.r.n (fun _ h => h)) hb) (fun q h1 h2 => o.r.n.1 q h1 h2.symm) (Kd.R_lower (Kd.R_reok rfl o.r.h (fun _ h => h)) hb) (Kd.R_lower (Kd.R_reok rfl o.r.p (fun _ h => h)) hb) (fun q h1 h2 => o.r.n.1 q h2 h1.symm) h).mono ?_
  rintro e W' ⟨rfl, hn, hh, hp, hB, hK⟩
  refine ⟨rfl, ⟨(hK.2 g (blk_lt o.box) ?_).trans o.box, o.hg, ?_, ?_, ?_⟩, hB, hK⟩
  · rintro (h | h | h)
    · exact Kd.R_ne o.r.n o.box (by decide) h.symm
    · exact Kd.R_ne o.r.h o.box (by decide) h.symm
    · exact Kd.R_ne o.r.p o.box (by decide) h.symm
  · exact Kd.R_raise (b := w.heap.size) (fun _ _ _ _ h => h) (Kd.R_reok rfl hn (fun q hq => o.r.n.1 q hq)) (Kd.R_base o.r.n)
  · exact Kd.R_raise (b := w.heap.size) (fun _ _ _ _ h => h) (Kd.R_reok rfl hh (fun q hq => trivial)) (Kd.R_base o.r.h)
  · exact Kd.R_raise (b := w.heap.size) (fun _ _ _ _ h => h) (Kd.R_reok rfl hp (fun q hq => trivial)) (Kd.R_base o.r.p)
theorem markR {code : Int} {vr : Value} {pages : List Int} (k : Nat) (a r1 : Int) (l' : List Int) (r : (Kd.int .i64).R 3 W b (fun _ => True) vr pages) (d : Below w.heap.size w W) (hb : w.heap.size ≤ b) (h : laws_markSpaceReply.f k code pages a = some (r1, l')) :
    Calls Try.prog 13 #[.agg #[.int .i64 code, vr], .int .i64 a] W fun e W' => e = .returned (.int .i64 r1) ∧ (Kd.int .i64).R 3 W' b (fun _ => True) vr l' ∧ Below w.heap.size w W' ∧ Kept W W' (fun q => vr.ownBlock = some q) := by
  refine (laws_markSpaceReply.calls k code (fun q => vr.ownBlock = some q) vr pages a r1 l' w W d (Kd.R_lower (Kd.R_reok rfl r (fun _ h => h)) hb) h).mono ?_
  rintro e W' ⟨rfl, hn, hB, hK⟩
  exact ⟨rfl, Kd.R_raise (b := w.heap.size) (fun _ _ _ _ h => h) (Kd.R_reok rfl hn (fun q hq => trivial)) (Kd.R_base r), hB, hK⟩
theorem eqS (k : Nat) (r : Bool) (o : Own b g W T E vn vh vp now held pins) (o2 : Own b2 g2 W T2 E2 vn2 vh2 vp2 now2 held2 pins2) (h : laws_eqSpace.f k T E now held pins T2 E2 now2 held2 pins2 = some true) :
    Calls Try.prog 10 #[.agg #[.int .i64 T, .int .i64 E, vn, vh, vp], .agg #[.int .i64 T2, .int .i64 E2, vn2, vh2, vp2]] W fun e W' => e = .returned (.bool true) ∧ Below W.heap.size W W' := by
  obtain ⟨A1, c1, rfl⟩ := Kd.R_slice o.r.n
  obtain ⟨A2, c2, rfl⟩ := Kd.R_slice o.r.h
  obtain ⟨A3, c3, rfl⟩ := Kd.R_slice o.r.p
  obtain ⟨A4, c4, rfl⟩ := Kd.R_slice o2.r.n
  obtain ⟨A5, c5, rfl⟩ := Kd.R_slice o2.r.h
  obtain ⟨A6, c6, rfl⟩ := Kd.R_slice o2.r.p
  exact laws_eqSpace.calls k T E A1 c1 now A2 c2 held A3 c3 pins T2 E2 A4 c4 now2 A5 c5 held2 A6 c6 pins2 r W (Kd.R_reads' o.r.n).2.2 (Kd.R_reads' o.r.n).2.1 (Kd.R_reads' o.r.h).2.2 (Kd.R_reads' o.r.h).2.1 (Kd.R_reads' o.r.p).2.2 (Kd.R_reads' o.r.p).2.1 (Kd.R_reads' o2.r.n).2.2 (Kd.R_reads' o2.r.n).2.1 (Kd.R_reads' o2.r.h).2.2 (Kd.R_reads' o2.r.h).2.1 (Kd.R_reads' o2.r.p).2.2 (Kd.R_reads' o2.r.p).2.1 h
/-- As eqS; the second one is no box's. -/
theorem eqT (k : Nat) (r : Bool) (o : Own b g W T E vn vh vp now held pins) (o2 : Trio b2 W vn2 vh2 vp2 now2 held2 pins2) (h : laws_eqSpace.f k T E now held pins T2 E2 now2 held2 pins2 = some true) :
    Calls Try.prog 10 #[.agg #[.int .i64 T, .int .i64 E, vn, vh, vp], .agg #[.int .i64 T2, .int .i64 E2, vn2, vh2, vp2]] W fun e W' => e = .returned (.bool true) ∧ Below W.heap.size W W' := by
  obtain ⟨A1, c1, rfl⟩ := Kd.R_slice o.r.n
  obtain ⟨A2, c2, rfl⟩ := Kd.R_slice o.r.h
  obtain ⟨A3, c3, rfl⟩ := Kd.R_slice o.r.p
  obtain ⟨A4, c4, rfl⟩ := Kd.R_slice o2.n
  obtain ⟨A5, c5, rfl⟩ := Kd.R_slice o2.h
  obtain ⟨A6, c6, rfl⟩ := Kd.R_slice o2.p
  exact laws_eqSpace.calls k T E A1 c1 now A2 c2 held A3 c3 pins T2 E2 A4 c4 now2 A5 c5 held2 A6 c6 pins2 r W (Kd.R_reads' o.r.n).2.2 (Kd.R_reads' o.r.n).2.1 (Kd.R_reads' o.r.h).2.2 (Kd.R_reads' o.r.h).2.1 (Kd.R_reads' o.r.p).2.2 (Kd.R_reads' o.r.p).2.1 (Kd.R_reads' o2.n).2.2 (Kd.R_reads' o2.n).2.1 (Kd.R_reads' o2.h).2.2 (Kd.R_reads' o2.h).2.1 (Kd.R_reads' o2.p).2.2 (Kd.R_reads' o2.p).2.1 h
theorem eqR {code code2 : Int} {vr vr2 : Value} {pages pages2 : List Int} {ok ok2 : Nat → Prop} (k : Nat) (r : Bool) (h1 : (Kd.int .i64).R 3 W b ok vr pages) (h2 : (Kd.int .i64).R 3 W b2 ok2 vr2 pages2) (h : laws_eqSpaceReply.f k code pages code2 pages2 = some true) :
    Calls Try.prog 11 #[.agg #[.int .i64 code, vr], .agg #[.int .i64 code2, vr2]] W fun e W' => e = .returned (.bool true) ∧ Below W.heap.size W W' := by
  obtain ⟨A1, c1, rfl⟩ := Kd.R_slice h1
  obtain ⟨A4, c4, rfl⟩ := Kd.R_slice h2
  exact laws_eqSpaceReply.calls k code A1 c1 pages code2 A4 c4 pages2 r W (Kd.R_reads' h1).2.2 (Kd.R_reads' h1).2.1 (Kd.R_reads' h2).2.2 (Kd.R_reads' h2).2.1 h
theorem heldT (k : Nat) (a r : Int) (h0 : 0 ≤ r) (o : Own b g W T E vn vh vp now held pins) (h : laws_heldSpace.f k T E now held pins a = some r) :
    Calls Try.prog 14 #[.agg #[.int .i64 T, .int .i64 E, vn, vh, vp], .int .i64 a] W fun e W' => e = .returned (.int .i64 r) ∧ Below W.heap.size W W' := by
  obtain ⟨A1, c1, rfl⟩ := Kd.R_slice o.r.n
  obtain ⟨A2, c2, rfl⟩ := Kd.R_slice o.r.h
  obtain ⟨A3, c3, rfl⟩ := Kd.R_slice o.r.p
  exact laws_heldSpace.calls k T E A1 c1 now A2 c2 held A3 c3 pins a r W (Kd.R_reads' o.r.n).2.2 (Kd.R_reads' o.r.n).2.1 (Kd.R_reads' o.r.h).2.2 (Kd.R_reads' o.r.h).2.1 (Kd.R_reads' o.r.p).2.2 (Kd.R_reads' o.r.p).2.1 h0 h
theorem heldR {code : Int} {vr : Value} {pages : List Int} {ok : Nat → Prop} (k : Nat) (a r : Int) (h0 : 0 ≤ r) (h1 : (Kd.int .i64).R 3 W b ok vr pages) (h : laws_heldSpaceReply.f k code pages a = some r) :
    Calls Try.prog 15 #[.agg #[.int .i64 code, vr], .int .i64 a] W fun e W' => e = .returned (.int .i64 r) ∧ Below W.heap.size W W' := by
  obtain ⟨A1, c1, rfl⟩ := Kd.R_slice h1
  exact laws_heldSpaceReply.calls k code A1 c1 pages a r W (Kd.R_reads' h1).2.2 (Kd.R_reads' h1).2.1 h0 h
/-- The results' space is marked. -/
theorem Gt.mark0 {g' g6 g7 N M : Nat} {ca cb : Array Value} {T6 E6 code code6 : Int} {v2 v3 v4 vr vr6 : Value} {now6 pins6 pages pages6 : List Int} {held6 : List S74} (H : Gt g g' T E vn vh vp now held pins code vr pages N W) (D : Wd w ca cb g6 g7 T6 E6 v2 v3 v4 now6 held6 pins6 code6 vr6 pages6 M W) (hMN : M ≤ N) (k : Nat) (a r1 : Int) (n' : List Int) (h' : List S74) (p' : List Int) (h : laws_markSpace.f k T E now held pins a = some (r1, n', h', p')) :
    Calls Try.prog 12 #[.agg #[.int .i64 T, .int .i64 E, vn, vh, vp], .int .i64 a] W fun e W' => e = .returned (.int .i64 r1) ∧ Gt g g' T E vn vh vp n' h' p' code vr pages N W' ∧ Wd w ca cb g6 g7 T6 E6 v2 v3 v4 now6 held6 pins6 code6 vr6 pages6 M W' := by
  refine (mark k a r1 n' h' p' H.t.o D.d (Nat.le_trans (Nat.le_of_lt (Nat.lt_of_succ_lt D.la)) hMN) h).mono ?_
  rintro e W' ⟨rfl, o, hB, hK⟩
  refine ⟨rfl, ⟨⟨o, (hK.2 g' (blk_lt H.t.b') ?_).trans H.t.b', hold rfl H.t.r (fun q hq => hK.2 q (Kd.R_lt H.t.r q hq) ?_), H.t.l'⟩, H.x, Nat.le_trans H.lN hK.1⟩, D.kept hK (fun q hq => Nat.le_trans hMN (Own_ge H.t.o q (.inr hq))) hB⟩
  · rintro (h | h | h)
    · exact Kd.R_ne H.t.o.r.n H.t.b' (by decide) h.symm
    · exact Kd.R_ne H.t.o.r.h H.t.b' (by decide) h.symm
    · exact Kd.R_ne H.t.o.r.p H.t.b' (by decide) h.symm
  · rintro (h | h | h)
    · exact (H.x q hq).1 h.symm
    · obtain ⟨cells, hc⟩ := Kd.R_typed H.t.r q hq
      exact Kd.R_ne H.t.o.r.h hc (by decide) h.symm
    · exact (H.x q hq).2 h.symm
theorem Gt.mark1 {g' g6 g7 N M : Nat} {ca cb : Array Value} {T6 E6 code code6 : Int} {v2 v3 v4 vr vr6 : Value} {now6 pins6 pages pages6 : List Int} {held6 : List S74} (H : Gt g g' T E vn vh vp now held pins code vr pages N W) (D : Wd w ca cb g6 g7 T6 E6 v2 v3 v4 now6 held6 pins6 code6 vr6 pages6 M W) (hMN : M ≤ N) (k : Nat) (a r1 : Int) (l' : List Int) (h : laws_markSpaceReply.f k code pages a = some (r1, l')) :
    Calls Try.prog 13 #[.agg #[.int .i64 code, vr], .int .i64 a] W fun e W' => e = .returned (.int .i64 r1) ∧ Gt g g' T E vn vh vp now held pins code vr l' N W' ∧ Wd w ca cb g6 g7 T6 E6 v2 v3 v4 now6 held6 pins6 code6 vr6 pages6 M W' := by
  refine (markR k a r1 l' H.t.r D.d (Nat.le_trans (Nat.le_of_lt (Nat.lt_of_succ_lt D.la)) hMN) h).mono ?_
  rintro e W' ⟨rfl, r, hB, hK⟩
  have ho : Own N g W' T E vn vh vp now held pins := Own_hold H.t.o (fun q hq => hK.2 q (Own_lt H.t.o q hq) (fun hv => by
    rcases hq with rfl | hq | hq | hq
    · exact Kd.R_ne H.t.r H.t.o.box (by decide) hv.symm
    · exact (H.x q hv).1 hq.symm
    · obtain ⟨cells, hc⟩ := Kd.R_typed H.t.r q hv
      exact Kd.R_ne H.t.o.r.h hc (by decide) hq.symm
    · exact (H.x q hv).2 hq.symm))
  exact ⟨rfl, ⟨⟨ho, (hK.2 g' (blk_lt H.t.b') (fun h => Kd.R_ne H.t.r H.t.b' (by decide) h.symm)).trans H.t.b', r, H.t.l'⟩, H.x, Nat.le_trans H.lN hK.1⟩, D.kept hK (fun q hq => Nat.le_trans hMN (Kd.R_base H.t.r q hq)) hB⟩
/-- The copy that was handed over is marked. -/
theorem Ex.mark {g9 g' g6 g7 N M : Nat} {ca cb : Array Value} {a0 b0 T6 E6 code code6 : Int} {x2 x3 x4 v2 v3 v4 vr vr6 : Value} {now6 pins6 pages pages6 l2 l4 : List Int} {t3 held6 : List S74} (X : Ex g9 a0 b0 x2 x3 x4 l2 t3 l4 N M W) (H : Gt g g' T E vn vh vp now held pins code vr pages M W) (D : Wd w ca cb g6 g7 T6 E6 v2 v3 v4 now6 held6 pins6 code6 vr6 pages6 N W) (k : Nat) (a r1 : Int) (n' : List Int) (h' : List S74) (p' : List Int) (h : laws_markSpace.f k a0 b0 l2 t3 l4 a = some (r1, n', h', p')) :
    Calls Try.prog 12 #[.agg #[.int .i64 a0, .int .i64 b0, x2, x3, x4], .int .i64 a] W fun e W' => e = .returned (.int .i64 r1) ∧ Gt g g' T E vn vh vp now held pins code vr pages M W' ∧ Wd w ca cb g6 g7 T6 E6 v2 v3 v4 now6 held6 pins6 code6 vr6 pages6 N W' := by
  refine (Law.mark k a r1 n' h' p' X.o D.d (Nat.le_of_lt (Nat.lt_of_succ_lt D.la)) h).mono ?_
  rintro e W' ⟨rfl, o, hB, hK⟩
  exact ⟨rfl, H.kept hK (fun q hq => X.u q (.inr hq)), D.kept hK (fun q hq => Own_ge X.o q (.inr hq)) hB⟩
/-- A copy is made of the argument. -/
theorem toS (k : Nat) (A2 : Option Addr) (c2 : Nat) (l2 : List Int) (A3 : Option Addr) (c3 : Nat) (l3 : List S77) (A4 : Option Addr) (c4 : Nat) (l4 : List Int) (t3 : List S74) (d : Below w.heap.size w W) (h2 : Kd.C (Kd.int .i64) w A2 l2.length l2) (hc2 : l2.length ≤ c2) (h3 : Kd.C k77 w A3 l3.length l3) (hc3 : l3.length ≤ c3) (h4 : Kd.C (Kd.int .i64) w A4 l4.length l4) (hc4 : l4.length ≤ c4) (h : laws_toSpace.f k T E l2 l3 l4 = some (T, E, l2, t3, l4)) :
    Calls Try.prog 7 #[.agg #[.int .i64 T, .int .i64 E, .slice A2 l2.length c2, .slice A3 l3.length c3, .slice A4 l4.length c4]] W fun e W' => ∃ B2 d2 B3 d3 B4 d4, e = .returned (.agg #[.int .i64 T, .int .i64 E, .slice B2 l2.length d2, .slice B3 t3.length d3, .slice B4 l4.length d4]) ∧ Trio W.heap.size W' (.slice B2 l2.length d2) (.slice B3 t3.length d3) (.slice B4 l4.length d4) l2 t3 l4 ∧ Below W.heap.size W W' := by
  refine (laws_toSpace.calls k T E A2 c2 l2 A3 c3 l3 A4 c4 l4 T E l2 t3 l4 W (Kd.C_below h2 d) hc2 (Kd.C_below h3 d) hc3 (Kd.C_below h4 d) hc4 h).mono ?_
  rintro e W' ⟨v2, v3, v4, rfl, h2, h3, h4, hB⟩
  obtain ⟨B2, d2, rfl⟩ := Kd.R_slice h2
  obtain ⟨B3, d3, rfl⟩ := Kd.R_slice h3
  obtain ⟨B4, d4, rfl⟩ := Kd.R_slice h4
  exact ⟨B2, d2, B3, d3, B4, d4, rfl, ⟨h2, h3, Kd.R_mono h4 (fun _ _ => trivial)⟩, hB⟩
end
end Go.Proofs.Ytcnkacbgcmnokaa.XA.Law
