/- Several texts of the session in one. -/
import Derived.Test.YtcnkacbgcmnokaaXA0
import Derived.Lib.SliceRun
import Derived.Deep.RegionWith
/- A space in hand: its box and its three rows, and how they stand behind a step; plain lemmas. -/
namespace Go.Proofs.Ytcnkacbgcmnokaa.XA.Room
open Go Go.RowKit Go.Proofs.YtcnkacbgcmnokaaW.PrintWords Go.Proofs.YtcnkacbgcmnokaaW.PrintLast Go.Proofs.YtcnkacbgcmnokaaW.PrintMore
set_option linter.unusedVariables false
set_option linter.unusedSimpArgs false
theorem ne_own {α : Type} {d : Kd α} {e t : Nat} {W : World} {b g : Nat} {ok : Nat → Prop} {v : Value} {xs : List α} {cs : Array Value} (h : d.R e W b ok v xs) (hb : W.heap[g]? = some (.cells cs t (0, 0))) (ht : e ≠ t) : v.ownBlock ≠ some g := fun e' => Kd.R_ne h hb ht e'.symm
/-- Three rows: numbers, pages that are held, numbers; the two of numbers lie apart. -/
structure Trio (b : Nat) (W : World) (vn vh vp : Value) (now : List Int) (held : List S74) (pins : List Int) : Prop where
  n : (Kd.int .i64).R 3 W b (fun k => some k ≠ vp.ownBlock) vn now
  h : k74.R 74 W b (fun _ => True) vh held
  p : (Kd.int .i64).R 3 W b (fun _ => True) vp pins
/-- A row's block is the elder one, or younger than w. -/
def Move (w : World) (v v' : Value) : Prop := ∀ k, v'.ownBlock = some k → v.ownBlock = some k ∨ w.heap.size ≤ k
theorem Move.refl (w : World) (v : Value) : Move w v v := fun _ h => .inl h
theorem Move.trans {w W : World} {v v' v'' : Value} (hs : w.heap.size ≤ W.heap.size) (h : Move w v v') (h' : Move W v' v'') : Move w v v'' := fun k hk => by
  rcases h' k hk with h1 | h1
  · exact h k h1
  · exact .inr (Nat.le_trans hs h1)
theorem Move.hat {w : World} {v v' : Value} (h : v'.ownBlock = v.ownBlock ∨ ∃ k, v'.ownBlock = some k ∧ w.heap.size ≤ k) : Move w v v' := fun k hk => by
  rcases h with h | ⟨q, hq, hl⟩
  · exact .inl (h.symm.trans hk)
  · rw [hq] at hk
    exact .inr (Option.some.inj hk ▸ hl)
section
variable {b gb : Nat} {w W W' : World} {T E : Int} {vn vh vp vn' vh' vp' : Value} {now now' : List Int} {held held' : List S74} {pins pins' : List Int}
theorem Trio.step (r : Trio b W vn vh vp now held pins) (hm : ∀ k, k < W.heap.size → W'.heap[k]? = W.heap[k]?) : Trio b W' vn vh vp now held pins :=
  ⟨Kd.R_step r.n (fun k _ => hm k), Kd.R_step r.h (fun k _ => hm k), Kd.R_step r.p (fun k _ => hm k)⟩
theorem Trio.below (r : Trio b W vn vh vp now held pins) (h : Below W.heap.size W W') : Trio b W' vn vh vp now held pins := r.step (fun k hk => h.block k hk)
theorem Trio.lower (r : Trio b W vn vh vp now held pins) {b' : Nat} (h : b' ≤ b) : Trio b' W vn vh vp now held pins := ⟨Kd.R_lower r.n h, Kd.R_lower r.h h, Kd.R_lower r.p h⟩
theorem Trio.set (r : Trio b W vn vh vp now held pins) {g t : Nat} {cs : Array Value} (hb : W.heap[g]? = some (.cells cs t (0, 0))) (h1 : 3 ≠ t) (h2 : 74 ≠ t) (j : Nat) (u : Value) : Trio b (W.setCell ⟨g, j, none⟩ u) vn vh vp now held pins :=
  ⟨Kd.R_set r.n hb (by intro q hq; rw [List.mem_singleton.1 hq]; exact h1) j u, Kd.R_set r.h hb (by intro q hq; rw [List.mem_singleton.1 hq]; exact h2) j u, Kd.R_set r.p hb (by intro q hq; rw [List.mem_singleton.1 hq]; exact h1) j u⟩
/-- The box and its rows. -/
structure Own (b gb : Nat) (W : World) (T E : Int) (vn vh vp : Value) (now : List Int) (held : List S74) (pins : List Int) : Prop where
  box : W.heap[gb]? = some (.cells #[.int .i64 T, .int .i64 E, vn, vh, vp] 31 (0, 0))
  hg : b ≤ gb
  r : Trio b W vn vh vp now held pins
theorem Own.below (o : Own b gb W T E vn vh vp now held pins) (h : Below W.heap.size W W') : Own b gb W' T E vn vh vp now held pins := ⟨blk_below o.box h, o.hg, o.r.below h⟩
/-- What has come of a space since w. -/
structure St (w : World) (b gb : Nat) (vn0 vh0 vp0 : Value) (W : World) (T E : Int) (vn vh vp : Value) (now : List Int) (held : List S74) (pins : List Int) : Prop where
  o : Own b gb W T E vn vh vp now held pins
  d : Below b w W
  k : Kept w W (fun k => k = gb ∨ some k = vh0.ownBlock ∨ some k = vp0.ownBlock)
  mn : Move w vn0 vn
  mh : Move w vh0 vh
  mp : Move w vp0 vp
theorem St.start (o : Own b gb w T E vn vh vp now held pins) : St w b gb vn vh vp w T E vn vh vp now held pins := ⟨o, Below.refl _ _, Kept.refl _ _, Move.refl _ _, Move.refl _ _, Move.refl _ _⟩
variable {vn0 vh0 vp0 : Value} {T' E' : Int}
theorem St.go (s : St w b gb vn0 vh0 vp0 W T E vn vh vp now held pins) (o : Own b gb W' T' E' vn' vh' vp' now' held' pins') (d : Below b W W') (k : Kept W W' (fun k => k = gb ∨ some k = vh.ownBlock ∨ some k = vp.ownBlock)) (mn : Move W vn vn') (mh : Move W vh vh') (mp : Move W vp vp') :
    St w b gb vn0 vh0 vp0 W' T' E' vn' vh' vp' now' held' pins' := by
  refine ⟨o, s.d.trans d, s.k.then_ k (fun q hq => ?_), s.mn.trans s.k.1 mn, s.mh.trans s.k.1 mh, s.mp.trans s.k.1 mp⟩
  rcases hq with hq | hq | hq
  · exact .inl (.inl hq)
  · rcases s.mh q hq.symm with h | h
    · exact .inl (.inr (.inl h.symm))
    · exact .inr h
  · rcases s.mp q hq.symm with h | h
    · exact .inl (.inr (.inr h.symm))
    · exact .inr h
theorem St.below (s : St w b gb vn0 vh0 vp0 W T E vn vh vp now held pins) (hs : b ≤ W.heap.size) (h : Below W.heap.size W W') : St w b gb vn0 vh0 vp0 W' T E vn vh vp now held pins :=
  s.go (s.o.below h) (h.mono hs) (Kept.of_below h _) (Move.refl _ _) (Move.refl _ _) (Move.refl _ _)
theorem set_kept (W : World) (g j : Nat) (v : Value) (S : Nat → Prop) (h : S g) : Kept W (W.setCell ⟨g, j, none⟩ v) S :=
  ⟨by simp [World.setCell], fun i _ hn => Below.heap_setCell W ⟨g, j, none⟩ v i (fun e => hn (by rw [e]; exact h))⟩
theorem kept_put {W1 : World} {S : Nat → Prop} (k : Kept W W1 S) (g j : Nat) (v : Value) (h : S g) : Kept W (W1.setCell ⟨g, j, none⟩ v) S :=
  ⟨Nat.le_trans k.1 (set_kept W1 g j v S h).1, fun i hi hn => ((set_kept W1 g j v S h).2 i (Nat.lt_of_lt_of_le hi k.1) hn).trans (k.2 i hi hn)⟩
/-- The held row is told anew, in its own block or a younger one, and the box is told. -/
theorem St.toHeld {W1 : World} (s : St w b gb vn0 vh0 vp0 W T E vn vh vp now held pins) (hh : k74.R 74 W1 b (fun _ => True) vh' held') (hB : Below b W W1) (hk : Kept W W1 (fun k => some k = vh.ownBlock)) (hm : Move W vh vh') :
    St w b gb vn0 vh0 vp0 (W1.setCell ⟨gb, 3, none⟩ vh') T E vn vh' vp now held' pins := by
  have hbx : W1.heap[gb]? = some (.cells #[.int .i64 T, .int .i64 E, vn, vh, vp] 31 (0, 0)) := (hk.2 gb (blk_lt s.o.box) (Kd.R_ne s.o.r.h s.o.box (by decide))).trans s.o.box
  have far : ∀ {v : Value} {l : List Int} {ok : Nat → Prop}, (Kd.int .i64).R 3 W b ok v l → (Kd.int .i64).R 3 W1 b ok v l := fun {v l ok} h => by
    refine Kd.R_mono (Kd.R_step (Kd.R_tight rfl h) (fun k hk' hl => hk.2 k hl (fun e => ?_))) (fun k hk' => h.1 k hk'.symm)
    obtain ⟨cells, hc⟩ := Kd.R_typed h k hk'.symm
    exact Kd.R_ne s.o.r.h hc (by decide) e
  have r1 : Trio b W1 vn vh' vp now held' pins := ⟨far s.o.r.n, hh, far s.o.r.p⟩
  exact s.go ⟨blk_put hbx 3 vh' rfl, s.o.hg, r1.set hbx (by decide) (by decide) 3 vh'⟩ (hB.setCell (p := ⟨gb, 3, none⟩) s.o.hg _) (kept_put (hk.mono (fun k h => .inr (.inl h))) gb 3 vh' (.inl rfl)) (Move.refl _ _) hm (Move.refl _ _)
/-- The row of pins is told anew. -/
theorem St.toPins {W1 : World} (s : St w b gb vn0 vh0 vp0 W T E vn vh vp now held pins) (hp : (Kd.int .i64).R 3 W1 b (fun _ => True) vp' pins') (hB : Below b W W1) (hk : Kept W W1 (fun k => some k = vp.ownBlock)) (hm : Move W vp vp') :
    St w b gb vn0 vh0 vp0 (W1.setCell ⟨gb, 4, none⟩ vp') T E vn vh vp' now held pins' := by
  have hbx : W1.heap[gb]? = some (.cells #[.int .i64 T, .int .i64 E, vn, vh, vp] 31 (0, 0)) := (hk.2 gb (blk_lt s.o.box) (Kd.R_ne s.o.r.p s.o.box (by decide))).trans s.o.box
  have h1 : k74.R 74 W1 b (fun _ => True) vh held := by
    refine Kd.R_mono (Kd.R_step (Kd.R_tight rfl s.o.r.h) (fun k hk' hl => hk.2 k hl (fun e => ?_))) (fun k _ => trivial)
    obtain ⟨cells, hc⟩ := Kd.R_typed s.o.r.h k hk'.symm
    exact Kd.R_ne s.o.r.p hc (by decide) e
  have h2 : (Kd.int .i64).R 3 W1 b (fun k => some k ≠ vp'.ownBlock) vn now := by
    refine Kd.R_mono (Kd.R_step (Kd.R_tight rfl s.o.r.n) (fun k hk' hl => hk.2 k hl (fun e => s.o.r.n.1 k hk'.symm e))) (fun k hk' e => ?_)
    rcases hm k e.symm with h | h
    · exact s.o.r.n.1 k hk'.symm h.symm
    · exact Nat.lt_irrefl _ (Nat.lt_of_lt_of_le (Kd.R_lt s.o.r.n k hk'.symm) h)
  have r1 : Trio b W1 vn vh vp' now held pins' := ⟨h2, h1, hp⟩
  exact s.go ⟨blk_put hbx 4 vp' rfl, s.o.hg, r1.set hbx (by decide) (by decide) 4 vp'⟩ (hB.setCell (p := ⟨gb, 4, none⟩) s.o.hg _) (kept_put (hk.mono (fun k h => .inr (.inr h))) gb 4 vp' (.inl rfl)) (Move.refl _ _) (Move.refl _ _) hm
/-- A row of now, made anew. -/
theorem St.toNow {W1 : World} (s : St w b gb vn0 vh0 vp0 W T E vn vh vp now held pins) (hs : b ≤ W.heap.size) (hn : (Kd.int .i64).R 3 W1 W.heap.size (fun _ => True) vn' now') (hB : Below W.heap.size W W1) :
    St w b gb vn0 vh0 vp0 (W1.setCell ⟨gb, 2, none⟩ vn') T E vn' vh vp now' held pins := by
  have o1 := s.o.below hB
  have h2 : (Kd.int .i64).R 3 W1 b (fun k => some k ≠ vp.ownBlock) vn' now' := Kd.R_lower (Kd.R_mono (Kd.R_tight rfl hn) (fun k hk' e => Nat.lt_irrefl _ (Nat.lt_of_lt_of_le (Kd.R_lt s.o.r.p k e.symm) (Kd.R_base hn k hk'.symm)))) hs
  have r1 : Trio b W1 vn' vh vp now' held pins := ⟨h2, o1.r.h, o1.r.p⟩
  exact s.go ⟨blk_put o1.box 2 vn' rfl, s.o.hg, r1.set o1.box (by decide) (by decide) 2 vn'⟩ ((hB.mono hs).setCell (p := ⟨gb, 2, none⟩) s.o.hg _) (kept_put (Kept.of_below hB _) gb 2 vn' (.inl rfl)) (fun k hk => .inr (Kd.R_base hn k hk)) (Move.refl _ _) (Move.refl _ _)
theorem St.epoch (s : St w b gb vn0 vh0 vp0 W T E vn vh vp now held pins) (E' : Int) : St w b gb vn0 vh0 vp0 (W.setCell ⟨gb, 1, none⟩ (.int .i64 E')) T E' vn vh vp now held pins :=
  s.go ⟨blk_put s.o.box 1 _ rfl, s.o.hg, s.o.r.set s.o.box (by decide) (by decide) 1 _⟩ ((Below.refl _ _).setCell (p := ⟨gb, 1, none⟩) s.o.hg _) (set_kept W gb 1 _ _ (.inl rfl)) (Move.refl _ _) (Move.refl _ _) (Move.refl _ _)
/-- What an append leaves, as a held row. -/
theorem grown_kept {v : Value} (hg : W.grownBy W' v.ownBlock) : Kept W W' (fun k => some k = v.ownBlock) := ⟨hg.size, fun i hi hn => hg.block i hi (fun e => hn e)⟩
end
theorem grown_kept' {W W' : World} {v : Value} (hg : W.drew.grownBy W' v.ownBlock) : Kept W W' (fun k => some k = v.ownBlock) := ⟨hg.size, fun i hi hn => hg.block i hi (fun e => hn e)⟩
theorem move_cut (w : World) (A : Option Addr) (n m c : Nat) : Move w (.slice A n c) (.slice A m c) := fun k hk => .inl (by cases A with
  | none => exact hk
  | some a => exact hk)
theorem undrewK {W W' : World} {S : Nat → Prop} (h : Kept W.drew W' S) : Kept W W' S := h
theorem apart_ {W W1 : World} {b b2 : Nat} {ok ok2 : Nat → Prop} {v vh : Value} {l : List Int} {held : List S74} (h : (Kd.int .i64).R 3 W b ok v l) (hh : k74.R 74 W b2 ok2 vh held) (hk : Kept W W1 (fun k => some k = vh.ownBlock)) : (Kd.int .i64).R 3 W1 b ok v l := by
  refine Kd.R_mono (Kd.R_step (Kd.R_tight rfl h) (fun k hk' hl => hk.2 k hl (fun e => ?_))) (fun k hk' => h.1 k hk'.symm)
  obtain ⟨cells, hc⟩ := Kd.R_typed h k hk'.symm
  exact Kd.R_ne hh hc (by decide) e
theorem St.inPlace {b gb : Nat} {w W W1 : World} {vn0 vh0 vp0 vn vh vp : Value} {T E : Int} {now : List Int} {held held' : List S74} {pins : List Int} (s : St w b gb vn0 vh0 vp0 W T E vn vh vp now held pins) (hh : k74.R 74 W1 b (fun _ => True) vh held') (hB : Below b W W1) (hk : Kept W W1 (fun k => some k = vh.ownBlock)) :
    St w b gb vn0 vh0 vp0 W1 T E vn vh vp now held' pins :=
  s.go ⟨(hk.2 gb (blk_lt s.o.box) (Kd.R_ne s.o.r.h s.o.box (by decide))).trans s.o.box, s.o.hg, ⟨apart_ s.o.r.n s.o.r.h hk, hh, apart_ s.o.r.p s.o.r.h hk⟩⟩ hB (hk.mono (fun k h => .inr (.inl h))) (Move.refl _ _) (Move.refl _ _) (Move.refl _ _)
theorem results_cct {P : Program} {fn : Func} {p p' u : Tmp} {ty ty' : TypeId} (h : fn.results = #[.cell p ty, .cell p' ty', .tmp u]) (tmps : Array Value) (w : World) (g g' : Nat) (t t' : TypeId) (cs cs' : Array Value) (fr fr' : Nat × Nat) (d d' : TypeDesc)
    (hp : tmps.getD p undef = .pointer (some ⟨g, 0, none⟩)) (hg : w.heap[g]? = some (.cells cs t fr))
    (hu : P.underlying ty = some d) (hd : (match d with | .struct _ | .array _ _ => true | _ => false) = true) (hi : (P.info? ty).map (·.size) = some cs.size)
    (hp' : tmps.getD p' undef = .pointer (some ⟨g', 0, none⟩)) (hg' : w.heap[g']? = some (.cells cs' t' fr'))
    (hu' : P.underlying ty' = some d') (hd' : (match d' with | .struct _ | .array _ _ => true | _ => false) = true) (hi' : (P.info? ty').map (·.size) = some cs'.size) :
    (results fn tmps).run P w = .ok (.tuple #[.agg cs, .agg cs', tmps.getD u undef]) w := by
  have h1 : tmps[p]?.getD undef = .pointer (some ⟨g, 0, none⟩) := by simpa using hp
  have h2 : tmps[p']?.getD undef = .pointer (some ⟨g', 0, none⟩) := by simpa using hp'
  simp [results, h, h1, h2, asAddr, run_loadVar_row w g t ty cs fr d hg hu hd hi, run_loadVar_row w g' t' ty' cs' fr' d' hg' hu' hd' hi']
/-- The boxes. -/
structure Cb (w : World) (cs : Array Value) (gs g4 g5 : Nat) (W : World) : Prop where
  s : W.heap[gs]? = some (.cells cs 31 (0, 0))
  r4 : W.heap[g4]? = some (.cells #[.int .i64 0, .int .i64 0, .slice none 0 0, .slice none 0 0, .slice none 0 0] 31 (0, 0))
  r5 : W.heap[g5]? = some (.cells #[.int .i64 0, .slice none 0 0] 33 (0, 0))
  d : Below w.heap.size w W
  l4 : w.heap.size ≤ g4
  l5 : w.heap.size ≤ g5
  n45 : g4 ≠ g5
section
variable {w W W' : World} {cs : Array Value} {gs g4 g5 gb : Nat}
theorem Cb.below (x : Cb w cs gs g4 g5 W) (h : Below W.heap.size W W') : Cb w cs gs g4 g5 W' := ⟨blk_below x.s h, blk_below x.r4 h, blk_below x.r5 h, x.d.trans (h.mono x.d.size), x.l4, x.l5, x.n45⟩
theorem Cb.held {ok : Nat → Prop} {v : Value} {xs : List S74} (x : Cb w cs gs g4 g5 W) (hr : k74.R 74 W w.heap.size ok v xs) (hB : Below w.heap.size W W') (hk : Kept W W' (fun k => some k = v.ownBlock)) : Cb w cs gs g4 g5 W' :=
  ⟨(hk.2 gs (blk_lt x.s) (Kd.R_ne hr x.s (by decide))).trans x.s, (hk.2 g4 (blk_lt x.r4) (Kd.R_ne hr x.r4 (by decide))).trans x.r4, (hk.2 g5 (blk_lt x.r5) (Kd.R_ne hr x.r5 (by decide))).trans x.r5, x.d.trans hB, x.l4, x.l5, x.n45⟩
theorem Cb.set (x : Cb w cs gs g4 g5 W) (h : gs ≠ gb ∧ g4 ≠ gb ∧ g5 ≠ gb ∧ w.heap.size ≤ gb) (j : Nat) (u : Value) : Cb w cs gs g4 g5 (W.setCell ⟨gb, j, none⟩ u) :=
  ⟨blk_far x.s h.1 _, blk_far x.r4 h.2.1 _, blk_far x.r5 h.2.2.1 _, x.d.setCell (p := ⟨gb, j, none⟩) h.2.2.2 _, x.l4, x.l5, x.n45⟩
theorem Cb.start (w : World) (cs : Array Value) : Cb w cs w.heap.size (w.heap.size + 1) (w.heap.size + 1 + 1) (((w.alloc (.cells cs 31)).alloc (.cells #[.int .i64 0, .int .i64 0, .slice none 0 0, .slice none 0 0, .slice none 0 0] 31)).alloc (.cells #[.int .i64 0, .slice none 0 0] 33)) := by
  have h0 := blk_new w (.cells cs 31)
  have h1 := blk_new (w.alloc (.cells cs 31)) (.cells #[.int .i64 0, .int .i64 0, .slice none 0 0, .slice none 0 0, .slice none 0 0] 31)
  have h2 := blk_new ((w.alloc (.cells cs 31)).alloc (.cells #[.int .i64 0, .int .i64 0, .slice none 0 0, .slice none 0 0, .slice none 0 0] 31)) (.cells #[.int .i64 0, .slice none 0 0] 33)
  rw [World.size_alloc] at h1
  rw [World.size_alloc, World.size_alloc] at h2
  exact ⟨blk_alloc (blk_alloc h0 _) _, blk_alloc h1 _, h2, below_alloc (below_alloc (below_alloc (Below.refl _ _) _) _) _, by omega, by omega, by omega⟩
end
/-- A call's own boxes: the space and the act that were handed in, the results. -/
structure Fr (w : World) (cs : Array Value) (kind n : Int) (gs ga g4 g5 : Nat) (W : World) : Prop where
  s : W.heap[gs]? = some (.cells cs 31 (0, 0))
  a : W.heap[ga]? = some (.cells #[.int .i64 kind, .int .i64 n] 37 (0, 0))
  r4 : W.heap[g4]? = some (.cells #[.int .i64 0, .int .i64 0, .slice none 0 0, .slice none 0 0, .slice none 0 0] 31 (0, 0))
  r5 : W.heap[g5]? = some (.cells #[.int .i64 0, .slice none 0 0] 33 (0, 0))
  d : Below w.heap.size w W
  l4 : w.heap.size ≤ g4
  l5 : w.heap.size ≤ g5
  n45 : g4 ≠ g5
section
variable {w W W' : World} {cs : Array Value} {kind n : Int} {gs ga g4 g5 : Nat}
theorem Fr.step (x : Fr w cs kind n gs ga g4 g5 W) (hm : ∀ k, k = gs ∨ k = ga ∨ k = g4 ∨ k = g5 → W'.heap[k]? = W.heap[k]?) (d : Below w.heap.size W W') : Fr w cs kind n gs ga g4 g5 W' :=
  ⟨(hm gs (.inl rfl)).trans x.s, (hm ga (.inr (.inl rfl))).trans x.a, (hm g4 (.inr (.inr (.inl rfl)))).trans x.r4, (hm g5 (.inr (.inr (.inr rfl)))).trans x.r5, x.d.trans d, x.l4, x.l5, x.n45⟩
theorem Fr.lt (x : Fr w cs kind n gs ga g4 g5 W) {k : Nat} (h : k = gs ∨ k = ga ∨ k = g4 ∨ k = g5) : k < W.heap.size := by
  rcases h with rfl | rfl | rfl | rfl
  · exact blk_lt x.s
  · exact blk_lt x.a
  · exact blk_lt x.r4
  · exact blk_lt x.r5
theorem Fr.below (x : Fr w cs kind n gs ga g4 g5 W) (h : Below W.heap.size W W') : Fr w cs kind n gs ga g4 g5 W' :=
  x.step (fun k hk => h.block k (x.lt hk)) (h.mono x.d.size)
theorem Fr.kept {b gb : Nat} {T E : Int} {vn vh vp : Value} {now : List Int} {held : List S74} {pins : List Int} (x : Fr w cs kind n gs ga g4 g5 W) (o : Own b gb W T E vn vh vp now held pins) (hg : gs < gb ∧ ga < gb ∧ g4 < gb ∧ g5 < gb) (hk : Kept W W' (fun k => k = gb ∨ some k = vh.ownBlock ∨ some k = vp.ownBlock)) (d : Below w.heap.size W W') : Fr w cs kind n gs ga g4 g5 W' := by
  have key : ∀ (k t : Nat) (c : Array Value), W.heap[k]? = some (.cells c t (0, 0)) → k < gb → 74 ≠ t → 3 ≠ t → W'.heap[k]? = W.heap[k]? := fun k t c hb hl h1 h2 => hk.2 k (blk_lt hb) (fun h => by
    rcases h with h | h | h
    · exact Nat.lt_irrefl _ (h ▸ hl)
    · exact Kd.R_ne o.r.h hb h1 h
    · exact Kd.R_ne o.r.p hb h2 h)
  exact ⟨(key _ _ _ x.s hg.1 (by decide) (by decide)).trans x.s, (key _ _ _ x.a hg.2.1 (by decide) (by decide)).trans x.a, (key _ _ _ x.r4 hg.2.2.1 (by decide) (by decide)).trans x.r4, (key _ _ _ x.r5 hg.2.2.2 (by decide) (by decide)).trans x.r5, x.d.trans d, x.l4, x.l5, x.n45⟩
theorem Fr.start (w : World) (cs : Array Value) (kind n : Int) : Fr w cs kind n w.heap.size (w.heap.size + 1) (w.heap.size + 1 + 1) (w.heap.size + 1 + 1 + 1) ((((w.alloc (.cells cs 31)).alloc (.cells #[.int .i64 kind, .int .i64 n] 37)).alloc (.cells #[.int .i64 0, .int .i64 0, .slice none 0 0, .slice none 0 0, .slice none 0 0] 31)).alloc (.cells #[.int .i64 0, .slice none 0 0] 33)) := by
  have h0 := blk_new w (.cells cs 31)
  have h1 := blk_new (w.alloc (.cells cs 31)) (.cells #[.int .i64 kind, .int .i64 n] 37)
  have h2 := blk_new ((w.alloc (.cells cs 31)).alloc (.cells #[.int .i64 kind, .int .i64 n] 37)) (.cells #[.int .i64 0, .int .i64 0, .slice none 0 0, .slice none 0 0, .slice none 0 0] 31)
  have h3 := blk_new (((w.alloc (.cells cs 31)).alloc (.cells #[.int .i64 kind, .int .i64 n] 37)).alloc (.cells #[.int .i64 0, .int .i64 0, .slice none 0 0, .slice none 0 0, .slice none 0 0] 31)) (.cells #[.int .i64 0, .slice none 0 0] 33)
  rw [World.size_alloc] at h1
  rw [World.size_alloc, World.size_alloc] at h2
  rw [World.size_alloc, World.size_alloc, World.size_alloc] at h3
  exact ⟨blk_alloc (blk_alloc (blk_alloc h0 _) _) _, blk_alloc (blk_alloc h1 _) _, blk_alloc h2 _, h3, below_alloc (below_alloc (below_alloc (below_alloc (Below.refl _ _) _) _) _) _, by omega, by omega, by omega⟩
/-- The results' boxes, told. -/
theorem put5 {h : Nat} {a b : Int} {u v x : Value} (r : W.heap[h]? = some (.cells #[.int .i64 0, .int .i64 0, .slice none 0 0, .slice none 0 0, .slice none 0 0] 31 (0, 0))) :
    (((((W.setCell ⟨h, 0, none⟩ (.int .i64 a)).setCell ⟨h, 1, none⟩ (.int .i64 b)).setCell ⟨h, 2, none⟩ u).setCell ⟨h, 3, none⟩ v).setCell ⟨h, 4, none⟩ x).heap[h]? = some (.cells #[.int .i64 a, .int .i64 b, u, v, x] 31 (0, 0)) :=
  blk_put (blk_put (blk_put (blk_put (blk_put r 0 _ rfl) 1 _ rfl) 2 _ rfl) 3 _ rfl) 4 _ rfl
theorem Trio.five {b0 h : Nat} {a b : Int} {u v x vn vh vp : Value} {now : List Int} {held : List S74} {pins : List Int} (t : Trio b0 W vn vh vp now held pins) (r : W.heap[h]? = some (.cells #[.int .i64 0, .int .i64 0, .slice none 0 0, .slice none 0 0, .slice none 0 0] 31 (0, 0))) :
    Trio b0 (((((W.setCell ⟨h, 0, none⟩ (.int .i64 a)).setCell ⟨h, 1, none⟩ (.int .i64 b)).setCell ⟨h, 2, none⟩ u).setCell ⟨h, 3, none⟩ v).setCell ⟨h, 4, none⟩ x) vn vh vp now held pins :=
  (((((t.set r (by decide) (by decide) 0 _).set (blk_put r 0 _ rfl) (by decide) (by decide) 1 _).set (blk_put (blk_put r 0 _ rfl) 1 _ rfl) (by decide) (by decide) 2 _).set (blk_put (blk_put (blk_put r 0 _ rfl) 1 _ rfl) 2 _ rfl) (by decide) (by decide) 3 _).set (blk_put (blk_put (blk_put (blk_put r 0 _ rfl) 1 _ rfl) 2 _ rfl) 3 _ rfl) (by decide) (by decide) 4 _)
theorem R5 {b0 h : Nat} {ok : Nat → Prop} {a b : Int} {u v x w0 : Value} {l : List Int} (t : (Kd.int .i64).R 3 W b0 ok w0 l) (r : W.heap[h]? = some (.cells #[.int .i64 0, .int .i64 0, .slice none 0 0, .slice none 0 0, .slice none 0 0] 31 (0, 0))) :
    (Kd.int .i64).R 3 (((((W.setCell ⟨h, 0, none⟩ (.int .i64 a)).setCell ⟨h, 1, none⟩ (.int .i64 b)).setCell ⟨h, 2, none⟩ u).setCell ⟨h, 3, none⟩ v).setCell ⟨h, 4, none⟩ x) b0 ok w0 l :=
  Kd.R_set (Kd.R_set (Kd.R_set (Kd.R_set (Kd.R_set t r (by decide) 0 _) (blk_put r 0 _ rfl) (by decide) 1 _) (blk_put (blk_put r 0 _ rfl) 1 _ rfl) (by decide) 2 _) (blk_put (blk_put (blk_put r 0 _ rfl) 1 _ rfl) 2 _ rfl) (by decide) 3 _) (blk_put (blk_put (blk_put (blk_put r 0 _ rfl) 1 _ rfl) 2 _ rfl) 3 _ rfl) (by decide) 4 _
theorem five_below {b0 h : Nat} {w : World} {a b : Int} {u v x : Value} (d : Below b0 w W) (l : b0 ≤ h) : Below b0 w (((((W.setCell ⟨h, 0, none⟩ (.int .i64 a)).setCell ⟨h, 1, none⟩ (.int .i64 b)).setCell ⟨h, 2, none⟩ u).setCell ⟨h, 3, none⟩ v).setCell ⟨h, 4, none⟩ x) :=
  ((((d.setCell (p := ⟨h, 0, none⟩) l _).setCell (p := ⟨h, 1, none⟩) l _).setCell (p := ⟨h, 2, none⟩) l _).setCell (p := ⟨h, 3, none⟩) l _).setCell (p := ⟨h, 4, none⟩) l _
theorem put2 {h : Nat} {a : Int} {u : Value} (r : W.heap[h]? = some (.cells #[.int .i64 0, .slice none 0 0] 33 (0, 0))) :
    ((W.setCell ⟨h, 0, none⟩ (.int .i64 a)).setCell ⟨h, 1, none⟩ u).heap[h]? = some (.cells #[.int .i64 a, u] 33 (0, 0)) := blk_put (blk_put r 0 _ rfl) 1 _ rfl
theorem Fr.cb (x : Fr w cs kind n gs ga g4 g5 W) : Cb w cs gs g4 g5 W := ⟨x.s, x.r4, x.r5, x.d, x.l4, x.l5, x.n45⟩
end
section
variable {w W : World} {cs : Array Value} {gs g4 g5 : Nat}
theorem Cb.told (x : Cb w cs gs g4 g5 W) (a b c : Int) (u v y z : Value) :
    ((((((((W.setCell ⟨g4, 0, none⟩ (.int .i64 a)).setCell ⟨g4, 1, none⟩ (.int .i64 b)).setCell ⟨g4, 2, none⟩ u).setCell ⟨g4, 3, none⟩ v).setCell ⟨g4, 4, none⟩ y).setCell ⟨g5, 0, none⟩ (.int .i64 c)).setCell ⟨g5, 1, none⟩ z)).heap[g4]? = some (.cells #[.int .i64 a, .int .i64 b, u, v, y] 31 (0, 0)) ∧
    ((((((((W.setCell ⟨g4, 0, none⟩ (.int .i64 a)).setCell ⟨g4, 1, none⟩ (.int .i64 b)).setCell ⟨g4, 2, none⟩ u).setCell ⟨g4, 3, none⟩ v).setCell ⟨g4, 4, none⟩ y).setCell ⟨g5, 0, none⟩ (.int .i64 c)).setCell ⟨g5, 1, none⟩ z)).heap[g5]? = some (.cells #[.int .i64 c, z] 33 (0, 0)) ∧ Below w.heap.size w ((((((((W.setCell ⟨g4, 0, none⟩ (.int .i64 a)).setCell ⟨g4, 1, none⟩ (.int .i64 b)).setCell ⟨g4, 2, none⟩ u).setCell ⟨g4, 3, none⟩ v).setCell ⟨g4, 4, none⟩ y).setCell ⟨g5, 0, none⟩ (.int .i64 c)).setCell ⟨g5, 1, none⟩ z)) ∧
    (∀ {vn vh vp : Value} {now : List Int} {held : List S74} {pins : List Int}, Trio w.heap.size W vn vh vp now held pins → Trio w.heap.size ((((((((W.setCell ⟨g4, 0, none⟩ (.int .i64 a)).setCell ⟨g4, 1, none⟩ (.int .i64 b)).setCell ⟨g4, 2, none⟩ u).setCell ⟨g4, 3, none⟩ v).setCell ⟨g4, 4, none⟩ y).setCell ⟨g5, 0, none⟩ (.int .i64 c)).setCell ⟨g5, 1, none⟩ z)) vn vh vp now held pins) ∧
    (∀ {ok : Nat → Prop} {v0 : Value} {l : List Int}, (Kd.int .i64).R 3 W w.heap.size ok v0 l → (Kd.int .i64).R 3 ((((((((W.setCell ⟨g4, 0, none⟩ (.int .i64 a)).setCell ⟨g4, 1, none⟩ (.int .i64 b)).setCell ⟨g4, 2, none⟩ u).setCell ⟨g4, 3, none⟩ v).setCell ⟨g4, 4, none⟩ y).setCell ⟨g5, 0, none⟩ (.int .i64 c)).setCell ⟨g5, 1, none⟩ z)) w.heap.size ok v0 l) := by
  have h5 := blk_far (blk_far (blk_far (blk_far (blk_far x.r5 (p := ⟨g4, 0, none⟩) (fun e => x.n45 e.symm) (.int .i64 a)) (p := ⟨g4, 1, none⟩) (fun e => x.n45 e.symm) (.int .i64 b)) (p := ⟨g4, 2, none⟩) (fun e => x.n45 e.symm) u) (p := ⟨g4, 3, none⟩) (fun e => x.n45 e.symm) v) (p := ⟨g4, 4, none⟩) (fun e => x.n45 e.symm) y
  have h4 := put5 (a := a) (b := b) (u := u) (v := v) (x := y) x.r4
  refine ⟨blk_far (blk_far h4 (p := ⟨g5, 0, none⟩) x.n45 _) (p := ⟨g5, 1, none⟩) x.n45 _, put2 h5, ?_, fun t => ?_, fun t => ?_⟩
  · exact ((((((x.d.setCell (p := ⟨g4, 0, none⟩) x.l4 _).setCell (p := ⟨g4, 1, none⟩) x.l4 _).setCell (p := ⟨g4, 2, none⟩) x.l4 _).setCell (p := ⟨g4, 3, none⟩) x.l4 _).setCell (p := ⟨g4, 4, none⟩) x.l4 _).setCell (p := ⟨g5, 0, none⟩) x.l5 _).setCell (p := ⟨g5, 1, none⟩) x.l5 _
  · exact ((t.five x.r4).set h5 (by decide) (by decide) 0 _).set (blk_put h5 0 _ rfl) (by decide) (by decide) 1 _
  · exact Kd.R_set (Kd.R_set (R5 t x.r4) h5 (by decide) 0 _) (blk_put h5 0 _ rfl) (by decide) 1 _
end
/-- Rows of whatever base, behind the results told. -/
theorem Cb.seven {w W : World} {cs : Array Value} {gs g4 g5 : Nat} (x : Cb w cs gs g4 g5 W) {b0 : Nat} {vn vh vp : Value} {now : List Int} {held : List S74} {pins : List Int} (t : Trio b0 W vn vh vp now held pins) (a b c : Int) (u v y z : Value) : Trio b0 ((((((((W.setCell ⟨g4, 0, none⟩ (.int .i64 a)).setCell ⟨g4, 1, none⟩ (.int .i64 b)).setCell ⟨g4, 2, none⟩ u).setCell ⟨g4, 3, none⟩ v).setCell ⟨g4, 4, none⟩ y).setCell ⟨g5, 0, none⟩ (.int .i64 c)).setCell ⟨g5, 1, none⟩ z)) vn vh vp now held pins := by
  have h5 := blk_far (blk_far (blk_far (blk_far (blk_far x.r5 (p := ⟨g4, 0, none⟩) (fun e => x.n45 e.symm) (.int .i64 a)) (p := ⟨g4, 1, none⟩) (fun e => x.n45 e.symm) (.int .i64 b)) (p := ⟨g4, 2, none⟩) (fun e => x.n45 e.symm) u) (p := ⟨g4, 3, none⟩) (fun e => x.n45 e.symm) v) (p := ⟨g4, 4, none⟩) (fun e => x.n45 e.symm) y
  exact ((t.five x.r4).set h5 (by decide) (by decide) 0 _).set (blk_put h5 0 _ rfl) (by decide) (by decide) 1 _
theorem Trio.far {b H : Nat} {W W' : World} {vn vh vp : Value} {now : List Int} {held : List S74} {pins : List Int} (t : Trio b W vn vh vp now held pins) (hg : W.grownBy W' (some H)) (hH : H < b) : Trio b W' vn vh vp now held pins := by
  have far : ∀ {α : Type} {d : Kd α} {e : Nat} {ok : Nat → Prop} {v : Value} {l : List α}, d.E = [] → d.R e W b ok v l → d.R e W' b ok v l := fun {α d e ok v l} hE h => by
    refine Kd.R_mono (Kd.R_step (Kd.R_tight hE h) (fun k hk' hl => hg.block k hl (fun e => ?_))) (fun k hk' => h.1 k hk'.symm)
    have := Kd.R_base h k hk'.symm
    injection e with e
    omega
  exact ⟨far rfl t.n, far rfl t.h, far rfl t.p⟩
theorem empty {α : Type} (d : Kd α) (e : Nat) (W : World) (base g : Nat) (ok : Nat → Prop) (hb : W.heap[g]? = some (.cells #[] e (0, 0))) (hg : base ≤ g) (hok : ok g) : d.R e W base ok (.slice (some ⟨g, 0, none⟩) 0 0) [] := by
  refine ⟨fun k hk => ?_, [], ?_, Reps.none _ _⟩
  · have : g = k := by simpa [Value.ownBlock] using hk
    exact this ▸ hok
  · exact ⟨by simp, .inr ⟨g, 0, #[], rfl, hg, hb, Nat.le_refl _, by unfold maxLen; omega, by simp, by simp⟩⟩
theorem elem74 {W : World} {b n c : Nat} {ok : Nat → Prop} {A : Option Addr} {xs : List S74} (h : k74.R 74 W b ok (.slice A n c) xs) (i : Nat) (hi : i < n) : ∃ g, A = some ⟨g, 0, none⟩ ∧ W.cell? ⟨g, i * 2, none⟩ = some (.int .i64 (xs.getD i z74).f0) ∧ W.cell? ⟨g, i * 2 + 1, none⟩ = some (.int .i64 (xs.getD i z74).f1) := by
  have hn := (Kd.R_reads' h).1
  obtain ⟨g, cap, e, _⟩ := Kd.R_form h (by omega)
  injection e with e1 _ _
  subst e1
  obtain ⟨cs, hcl, hM, hcc, hfr⟩ := Kd.R_elem h z74 (i : Int) (by omega) (by omega)
  obtain rfl := k74_openM hM
  rw [Int.toNat_natCast] at hcc
  exact ⟨g, rfl, hcc 0 _ rfl, hcc 1 _ rfl⟩
theorem elemI {W : World} {b n c : Nat} {ok : Nat → Prop} {A : Option Addr} {xs : List Int} (h : (Kd.int .i64).R 3 W b ok (.slice A n c) xs) (i : Nat) (hi : i < n) : ∃ g, A = some ⟨g, 0, none⟩ ∧ W.cell? ⟨g, i, none⟩ = some (.int .i64 (xs.getD i 0)) := by
  have hn := (Kd.R_reads' h).1
  obtain ⟨g, cap, e, _⟩ := Kd.R_form h (by omega)
  injection e with e1 _ _
  subst e1
  obtain ⟨cs, hcl, hM, hcc, hfr⟩ := Kd.R_elem h 0 (i : Int) (by omega) (by omega)
  have hM' : cs = [.int .i64 (xs.getD (i : Int).toNat 0)] := hM
  subst hM'
  have h1 := hcc 0 _ rfl
  simp only [show (Kd.int .i64).sz = 1 from rfl, Int.toNat_natCast, Nat.mul_one, Nat.add_zero] at h1
  exact ⟨g, rfl, h1⟩
theorem cell_far2 {W : World} {g g2 i : Nat} {u v : Value} (h : W.cell? ⟨g, i, none⟩ = some u) (hn : g ≠ g2) (j : Nat) : (W.setCell ⟨g2, j, none⟩ v).cell? ⟨g, i, none⟩ = some u := by
  rw [World.cell?_setCell_other _ _ _ _ (fun e => by injection e with e1 _; exact hn e1.symm)]
  exact h
theorem wrapsub (n : Nat) (h : n ≤ 1048576) : wrap64 ((n : Int) - 1) = (n : Int) - 1 := by unfold wrap64; omega
theorem wrapadd (n : Nat) (h : n ≤ 1048576) : wrap64 ((n : Int) + 1) = (n : Int) + 1 := by unfold wrap64; omega
theorem undrew {b : Nat} {W W' : World} (h : Below b W.drew W') : Below b W W' := (below_drew (Below.refl _ _)).trans h
theorem wr1 (i n : Nat) (h0 : i < n) (h1 : n < 1099511627776) : wrap64 ((i : Int) + 1) = ((i + 1 : Nat) : Int) := by unfold wrap64; omega
end Go.Proofs.Ytcnkacbgcmnokaa.XA.Room
/- Frames that differ in some slots alone; plain lemmas for regions that draw their order. -/
namespace Go.Proofs.Ytcnkacbgcmnokaa.XA.Fram
open Go Go.RowKit Go.Proofs.YtcnkacbgcmnokaaW.PrintWords
set_option linter.unusedVariables false
set_option linter.unusedSimpArgs false
/-- A frame that differs from a0 in the slots D alone. -/
structure Fa (D : List Nat) (a0 a : Act) : Prop where
  sz : a.tmps.size = a0.tmps.size
  df : a.defers = a0.defers
  eq : ∀ k, k ∉ D → a.tmps[k]? = a0.tmps[k]?
theorem Fa.refl (D : List Nat) (a : Act) : Fa D a a := ⟨rfl, rfl, fun _ _ => rfl⟩
theorem Fa.put {D : List Nat} {a0 a : Act} (h : Fa D a0 a) {d : Nat} (hd : d ∈ D) (v : Value) : Fa D a0 ⟨a.tmps.setIfInBounds d v, a.defers⟩ :=
  ⟨by rw [← h.sz]; exact Array.size_setIfInBounds, h.df, fun k hk => by
    rw [← h.eq k hk]
    exact Array.getElem?_setIfInBounds_ne (fun e => hk (by rw [← e]; exact hd))⟩
theorem get_eq {t : Array Value} {d : Nat} {v : Value} (h : d < t.size) : (t.setIfInBounds d v)[d]?.getD undef = v := by simp [h]
theorem get_ne {t : Array Value} {d k : Nat} {v : Value} (h : d ≠ k) : (t.setIfInBounds d v)[k]?.getD undef = t[k]?.getD undef := by rw [Array.getElem?_setIfInBounds_ne h]
theorem get_some {t : Array Value} {k : Nat} (h : k < t.size) : t[k]? = some (t[k]?.getD undef) := by rw [Array.getElem?_eq_getElem h]; rfl
/-- Such a frame, told. -/
theorem Fa.eqn {a0 a : Act} : ∀ (D : List Nat), Fa D a0 a → (∀ d, d ∈ D → d < a0.tmps.size) → a = ⟨D.foldr (fun d t => t.setIfInBounds d (a.tmps[d]?.getD undef)) a0.tmps, a0.defers⟩ := by
  intro D h hD
  have key : ∀ L : List Nat, (∀ d, d ∈ L → d < a0.tmps.size) → (L.foldr (fun d t => t.setIfInBounds d (a.tmps[d]?.getD undef)) a0.tmps).size = a0.tmps.size ∧ (∀ k, k ∈ L → (L.foldr (fun d t => t.setIfInBounds d (a.tmps[d]?.getD undef)) a0.tmps)[k]? = a.tmps[k]?) ∧ (∀ k, k ∉ L → (L.foldr (fun d t => t.setIfInBounds d (a.tmps[d]?.getD undef)) a0.tmps)[k]? = a0.tmps[k]?) := by
    intro L
    induction L with
    | nil => exact fun _ => ⟨rfl, (fun k hk => absurd hk List.not_mem_nil), fun k _ => rfl⟩
    | cons x L ih =>
      intro hL
      obtain ⟨h1, h2, h3⟩ := ih (fun d hd => hL d (List.mem_cons_of_mem _ hd))
      refine ⟨by rw [List.foldr_cons, Array.size_setIfInBounds]; exact h1, fun k hk => ?_, fun k hk => ?_⟩
      · rw [List.foldr_cons]
        by_cases e : x = k
        · subst e
          rw [Array.getElem?_setIfInBounds_self_of_lt (by rw [h1]; exact hL _ (List.mem_cons_self ..))]
          exact (get_some (by rw [h.sz]; exact hL _ (List.mem_cons_self ..))).symm
        · rw [Array.getElem?_setIfInBounds_ne e]
          rcases List.mem_cons.1 hk with r | r
          · exact absurd r.symm e
          · exact h2 k r
      · rw [List.foldr_cons, Array.getElem?_setIfInBounds_ne (fun e => hk (by rw [← e]; exact List.mem_cons_self ..))]
        exact h3 k (fun hm => hk (List.mem_cons_of_mem _ hm))
  obtain ⟨h1, h2, h3⟩ := key D hD
  cases a with
  | mk tm df =>
    have ht : tm = D.foldr (fun d t => t.setIfInBounds d (tm[d]?.getD undef)) a0.tmps := by
      apply Array.ext_getElem?
      intro k
      by_cases hk : k ∈ D
      · exact (h2 k hk).symm
      · exact (h.eq k hk).trans (h3 k hk).symm
    have hdf : df = a0.defers := h.df
    rw [hdf]
    exact congrArg (fun t => Act.mk t a0.defers) ht
abbrev ph (n : Nat) : Edge := { on := n, ground := .phase }
abbrev da (n : Nat) : Edge := { on := n, ground := .data }
abbrev cn (n : Nat) : Edge := { on := n, ground := .chain }
abbrev tx (n : Nat) : Edge := { on := n, ground := .textOnly .lateStores }
abbrev gc (n : Nat) : Edge := { on := n, ground := .gcOnly .lateStores }
abbrev pt (g : Nat) : Value := .pointer (some ⟨g, 0, none⟩)
abbrev zS : Obj := .cells #[.int .i64 0, .int .i64 0, .slice none 0 0, .slice none 0 0, .slice none 0 0] 31 (0, 0)
abbrev zR : Obj := .cells #[.int .i64 0, .slice none 0 0] 33 (0, 0)
abbrev at_ (a : Act) (k : Nat) (v : Value) : Prop := a.tmps[k]?.getD undef = v
abbrev st (a : Act) (d : Nat) (v : Value) : Act := ⟨a.tmps.setIfInBounds d v, a.defers⟩
theorem st_eq {a : Act} {d : Nat} {v : Value} (h : d < a.tmps.size) : at_ (st a d v) d v := get_eq h
theorem st_ne {a : Act} {d k : Nat} {v x : Value} (h : d ≠ k) (hx : at_ a k x) : at_ (st a d v) k x := (get_ne h).trans hx
theorem ev {a : Act} {k : Nat} {v : Value} (h : at_ a k v) : a.eval (.tmp k) = v := by simpa [Act.eval] using h
end Go.Proofs.Ytcnkacbgcmnokaa.XA.Fram
/- A space once more, in rows of its own (spec.l04Own): a region that draws its order, in whatever order. -/
namespace Go.Proofs.Ytcnkacbgcmnokaa.XA
open Go Go.RowKit Go.Proofs.YtcnkacbgcmnokaaW.PrintWords Go.Proofs.YtcnkacbgcmnokaaW.PrintLast Go.Proofs.YtcnkacbgcmnokaaW.PrintMore Go.Proofs.Ytcnkacbgcmnokaa.XA.Room Go.Proofs.Ytcnkacbgcmnokaa.XA.Fram
set_option linter.unusedVariables false
set_option linter.unusedSimpArgs false
set_option maxRecDepth 100000
def spec_l04Own.f (a0_0 : Int) (a0_1 : Int) (l0_2 : List Int) (l0_3 : List (S74)) (l0_4 : List Int) : Option (Int × Int × List Int × (List (S74)) × List Int) := (some (([] : List Int) : List Int)).bind fun y174 => (if y174.length + l0_2.length < 17592186044416 then ((some (([] : List (S74)) : List (S74))).bind fun y180 => (if y180.length + l0_3.length < 8796093022208 then ((some (([] : List Int) : List Int)).bind fun y186 => (if y186.length + l0_4.length < 17592186044416 then (some (a0_0, a0_1, (y174 ++ l0_2), (y180 ++ l0_3), (y186 ++ l0_4))) else (none))) else (none))) else (none))
namespace Ownl
/-- The rows made so far; the two of numbers lie apart. -/
structure Rw (b : Nat) (X Y Z : Option Value) (xs : List Int) (ys : List S74) (zs : List Int) (W : World) : Prop where
  x : ∀ v, X = some v → (Kd.int .i64).R 3 W b (fun _ => True) v xs
  y : ∀ v, Y = some v → k74.R 74 W b (fun _ => True) v ys
  z : ∀ v, Z = some v → (Kd.int .i64).R 3 W b (fun _ => True) v zs
  xz : ∀ v v' k, X = some v → Z = some v' → v.ownBlock = some k → v'.ownBlock ≠ some k
section
variable {b : Nat} {X Y Z : Option Value} {xs zs xs' zs' : List Int} {ys ys' : List S74} {W W' : World} {v v' : Value}
theorem Rw.below (r : Rw b X Y Z xs ys zs W) (h : Below W.heap.size W W') : Rw b X Y Z xs ys zs W' :=
  ⟨fun v e => Kd.R_below (r.x v e) h, fun v e => Kd.R_below (r.y v e) h, fun v e => Kd.R_below (r.z v e) h, r.xz⟩
theorem Rw.mkx (r : Rw b none Y Z xs ys zs W) (hb : b ≤ W.heap.size) (n : (Kd.int .i64).R 3 W' W.heap.size (fun _ => True) v xs') (h : Below W.heap.size W W') : Rw b (some v) Y Z xs' ys zs W' :=
  ⟨fun u e => by cases e; exact Kd.R_lower n hb, (r.below h).y, (r.below h).z, fun u u' k e e' hk hk' => by
    cases e
    exact absurd (Kd.R_lt (r.z u' e') k hk') (Nat.not_lt.2 (Kd.R_base n k hk))⟩
theorem Rw.mky (r : Rw b X none Z xs ys zs W) (hb : b ≤ W.heap.size) (n : k74.R 74 W' W.heap.size (fun _ => True) v ys') (h : Below W.heap.size W W') : Rw b X (some v) Z xs ys' zs W' :=
  ⟨(r.below h).x, fun u e => by cases e; exact Kd.R_lower n hb, (r.below h).z, r.xz⟩
theorem Rw.mkz (r : Rw b X Y none xs ys zs W) (hb : b ≤ W.heap.size) (n : (Kd.int .i64).R 3 W' W.heap.size (fun _ => True) v zs') (h : Below W.heap.size W W') : Rw b X Y (some v) xs ys zs' W' :=
  ⟨(r.below h).x, (r.below h).y, fun u e => by cases e; exact Kd.R_lower n hb, fun u u' k e e' hk hk' => by
    cases e'
    exact absurd (Kd.R_lt (r.x u e) k hk) (Nat.not_lt.2 (Kd.R_base n k hk'))⟩
theorem held {α : Type} {d : Kd α} {e : Nat} {ok : Nat → Prop} {u : Value} {l : List α} (hE : d.E = []) (h : d.R e W b ok u l) {row : Option Nat} (hg : W.grownBy W' row) (hn : ∀ k, u.ownBlock = some k → some k ≠ row) : d.R e W' b ok u l :=
  Kd.R_reok hE (Kd.R_move (Kd.R_tight hE h) (fun k hk => hg.block k (Kd.R_lt h k hk.symm) (hn k hk.symm))) h.1
theorem typed {α β : Type} {d : Kd α} {d' : Kd β} {e e' : Nat} {ok ok' : Nat → Prop} {b b' : Nat} {u u' : Value} {l : List α} {l' : List β} (h : d.R e W b ok u l) (h' : d'.R e' W b' ok' u' l') (hne : e ≠ e') : ∀ k, u.ownBlock = some k → some k ≠ u'.ownBlock := fun k hk hk' => by
  obtain ⟨c, hc⟩ := Kd.R_typed h k hk
  exact Kd.R_ne h' hc (Ne.symm hne) hk'
theorem apart (hg : W.grownBy W' v.ownBlock) (ht : v'.ownBlock = v.ownBlock ∨ ∃ k, v'.ownBlock = some k ∧ W.heap.size ≤ k) {u : Value} (hl : ∀ k, u.ownBlock = some k → k < W.heap.size) (hn : ∀ k, v.ownBlock = some k → u.ownBlock ≠ some k) : ∀ k, v'.ownBlock = some k → u.ownBlock ≠ some k := fun k hk hu => by
  rcases ht with h | ⟨q, hq, hl'⟩
  · exact hn k (h.symm.trans hk) hu
  · rw [hq] at hk
    cases hk
    exact absurd (hl _ hu) (Nat.not_lt.2 hl')
theorem Rw.apx (r : Rw b (some v) Y Z xs ys zs W) (n : (Kd.int .i64).R 3 W' b (fun _ => True) v' xs') (hg : W.grownBy W' v.ownBlock) (ht : v'.ownBlock = v.ownBlock ∨ ∃ k, v'.ownBlock = some k ∧ W.heap.size ≤ k) : Rw b (some v') Y Z xs' ys zs W' :=
  ⟨fun u e => by cases e; exact n, fun u e => held rfl (r.y u e) hg (typed (r.y u e) (r.x v rfl) (by decide)), fun u e => held rfl (r.z u e) hg (fun k hk hv => r.xz v u k rfl e hv.symm hk),
    fun u u' k e e' => by cases e; exact apart hg ht (Kd.R_lt (r.z u' e')) (fun k => r.xz v u' k rfl e') k⟩
theorem Rw.apy (r : Rw b X (some v) Z xs ys zs W) (n : k74.R 74 W' b (fun _ => True) v' ys') (hg : W.grownBy W' v.ownBlock) (ht : v'.ownBlock = v.ownBlock ∨ ∃ k, v'.ownBlock = some k ∧ W.heap.size ≤ k) : Rw b X (some v') Z xs ys' zs W' :=
  ⟨fun u e => held rfl (r.x u e) hg (typed (r.x u e) (r.y v rfl) (by decide)), fun u e => by cases e; exact n, fun u e => held rfl (r.z u e) hg (typed (r.z u e) (r.y v rfl) (by decide)), r.xz⟩
theorem Rw.apz (r : Rw b X Y (some v) xs ys zs W) (n : (Kd.int .i64).R 3 W' b (fun _ => True) v' zs') (hg : W.grownBy W' v.ownBlock) (ht : v'.ownBlock = v.ownBlock ∨ ∃ k, v'.ownBlock = some k ∧ W.heap.size ≤ k) : Rw b X Y (some v') xs ys zs' W' :=
  ⟨fun u e => held rfl (r.x u e) hg (fun k hk hv => r.xz u v k e rfl hk hv.symm), fun u e => held rfl (r.y u e) hg (typed (r.y u e) (r.z v rfl) (by decide)), fun u e => by cases e; exact n,
    fun u u' k e e' hk hk' => by cases e'; exact apart hg ht (Kd.R_lt (r.x u e)) (fun k hv hu => r.xz u v k e rfl hu hv) k hk' hk⟩
end
/-- The argument's box, and the result's. -/
structure Sx (w : World) (g1 g2 : Nat) (cs : Array Value) (W : World) : Prop where
  d : Below w.heap.size w W
  b1 : W.heap[g1]? = some (.cells cs 31 (0, 0))
  b2 : W.heap[g2]? = some zS
theorem Sx.below {w W W' : World} {g1 g2 : Nat} {cs : Array Value} (s : Sx w g1 g2 cs W) (h : Below W.heap.size W W') : Sx w g1 g2 cs W' := ⟨below_step s.d h, blk_below s.b1 h, blk_below s.b2 h⟩
theorem Sx.grown {w W W' : World} {g1 g2 : Nat} {cs : Array Value} {row : Option Nat} (s : Sx w g1 g2 cs W) (d : Below w.heap.size w W') (hg : W.grownBy W' row) (h : ∀ g c, W.heap[g]? = some (.cells c 31 (0, 0)) → some g ≠ row) : Sx w g1 g2 cs W' :=
  ⟨d, blk_grown s.b1 hg (h _ _ s.b1), blk_grown s.b2 hg (h _ _ s.b2)⟩
def o0 : Oper := ⟨some 3, Op.fieldAddr 31 (Operand.tmp 1) 0, 0, "l04_space.go:39", #[], none⟩
def o1 : Oper := ⟨some 4, Op.load 3 (Operand.tmp 3), 3, "l04_space.go:39", #[da 0], none⟩
def o2 : Oper := ⟨some 5, Op.fieldAddr 31 (Operand.tmp 1) 1, 0, "l04_space.go:39", #[], none⟩
def o3 : Oper := ⟨some 6, Op.load 3 (Operand.tmp 5), 3, "l04_space.go:39", #[da 2], none⟩
def o4 : Oper := ⟨some 7, Op.buildSlice 22 0 #[], 22, "l04_space.go:39", #[], none⟩
def o5 : Oper := ⟨some 8, Op.fieldAddr 31 (Operand.tmp 1) 2, 0, "l04_space.go:39", #[], none⟩
def o6 : Oper := ⟨some 9, Op.load 22 (Operand.tmp 8), 22, "l04_space.go:39", #[da 5], none⟩
def o7 : Oper := ⟨some 10, Op.call { callee := Callee.builtin Builtin.append, args := #[Operand.tmp 7, Operand.tmp 9], argTypes := #[22, 22] }, 22, "l04_space.go:39", #[da 4, da 6], none⟩
def o8 : Oper := ⟨some 11, Op.buildSlice 29 0 #[], 29, "l04_space.go:39", #[], none⟩
def o9 : Oper := ⟨some 12, Op.fieldAddr 31 (Operand.tmp 1) 3, 0, "l04_space.go:39", #[], none⟩
def o10 : Oper := ⟨some 13, Op.load 29 (Operand.tmp 12), 29, "l04_space.go:39", #[da 9], none⟩
def o11 : Oper := ⟨some 14, Op.call { callee := Callee.builtin Builtin.append, args := #[Operand.tmp 11, Operand.tmp 13], argTypes := #[29, 29] }, 29, "l04_space.go:39", #[da 8, da 10, cn 7], none⟩
def o12 : Oper := ⟨some 15, Op.buildSlice 22 0 #[], 22, "l04_space.go:39", #[], none⟩
def o13 : Oper := ⟨some 16, Op.fieldAddr 31 (Operand.tmp 1) 4, 0, "l04_space.go:39", #[], none⟩
def o14 : Oper := ⟨some 17, Op.load 22 (Operand.tmp 16), 22, "l04_space.go:39", #[da 13], none⟩
def o15 : Oper := ⟨some 18, Op.call { callee := Callee.builtin Builtin.append, args := #[Operand.tmp 15, Operand.tmp 17], argTypes := #[22, 22] }, 22, "l04_space.go:39", #[da 12, da 14, cn 11], none⟩
def o16 : Oper := ⟨some 19, Op.build 31 #[(0, Operand.tmp 4), (1, Operand.tmp 6), (2, Operand.tmp 10), (3, Operand.tmp 14), (4, Operand.tmp 18)], 31, "l04_space.go:39", #[da 1, da 3, da 7, da 11, da 15], none⟩
def o17 : Oper := ⟨none, Op.store 31 (Operand.tmp 2) (Operand.tmp 19), 0, "l04_space.go:39", #[da 16, cn 15, ph 0, ph 1, ph 2, ph 3, ph 4, ph 5, ph 6, ph 7, ph 8, ph 9, ph 10, ph 11, ph 12, ph 13, ph 14, ph 15, ph 16], none⟩
def ops : Array Oper := #[o0, o1, o2, o3, o4, o5, o6, o7, o8, o9, o10, o11, o12, o13, o14, o15, o16, o17]
def D : List Nat := [3, 4, 5, 6, 7, 8, 9, 10, 11, 12, 13, 14, 15, 16, 17, 18, 19]
/-- What has come up: the loads, c appends, the rows made. -/
def L (c : Nat) (x y z : Bool) : Array Bool := #[true, true, true, true, x, true, true, Nat.blt 0 c, y, true, true, Nat.blt 1 c, z, true, true, Nat.blt 2 c, false, false]
structure Dt where
  T : Int
  E : Int
  A2 : Option Addr
  c2 : Nat
  l2 : List Int
  A3 : Option Addr
  c3 : Nat
  l3 : List S74
  A4 : Option Addr
  c4 : Nat
  l4 : List Int
def Dt.cs (p : Dt) : Array Value := #[.int .i64 p.T, .int .i64 p.E, .slice p.A2 p.l2.length p.c2, .slice p.A3 p.l3.length p.c3, .slice p.A4 p.l4.length p.c4]
/-- What is known at the region's beginning, and what is asked behind it. -/
structure Cx (p : Dt) (a0 : Act) (w W0 : World) (Q : Exit → Act → World → Prop) (g1 g2 : Nat) : Prop where
  sz : a0.tmps.size = 20
  p1 : at_ a0 1 (pt g1)
  ne : g1 ≠ g2
  p2 : at_ a0 2 (pt g2)
  s0 : Sx w g1 g2 p.cs W0
  lg : w.heap.size ≤ g2
  r2 : Kd.C (Kd.int .i64) w p.A2 p.l2.length p.l2
  r3 : Kd.C k74 w p.A3 p.l3.length p.l3
  r4 : Kd.C (Kd.int .i64) w p.A4 p.l4.length p.l4
  n2 : p.l2.length < 17592186044416
  n3 : p.l3.length < 8796093022208
  n4 : p.l4.length < 17592186044416
  hp : ∀ c a d v W, Q (.panic c) (st a d v) W → Q (.panic c) a W
  hq : ∀ (t : Act) (u v z : Value) (W : World), t.defers = a0.defers → at_ t 2 (pt g2) → Below w.heap.size w W → W.heap[g2]? = some (.cells #[.int .i64 p.T, .int .i64 p.E, u, v, z] 31 (0, 0)) → Rw w.heap.size (some u) (some v) (some z) p.l2 p.l3 p.l4 W → Q .normal t W
section
variable {p : Dt} {a0 a : Act} {w W W0 : World} {Q : Exit → Act → World → Prop} {g1 g2 c : Nat} {X Y Z : Option Value} {u v q : Value} {K : Act → World → Prop}
/-- Behind c of the appends, with these rows made. -/
structure Nd (p : Dt) (a0 : Act) (w : World) (g1 g2 c : Nat) (X Y Z : Option Value) (a : Act) (W : World) : Prop where
  fa : Fa D a0 a
  s : Sx w g1 g2 p.cs W
  e4 : at_ a 4 (.int .i64 p.T)
  e6 : at_ a 6 (.int .i64 p.E)
  e9 : at_ a 9 (.slice p.A2 p.l2.length p.c2)
  e13 : at_ a 13 (.slice p.A3 p.l3.length p.c3)
  e17 : at_ a 17 (.slice p.A4 p.l4.length p.c4)
  r : Rw w.heap.size X Y Z (if 1 ≤ c then p.l2 else []) (if 2 ≤ c then p.l3 else []) (if 3 ≤ c then p.l4 else []) W
  x : ∀ v, X = some v → at_ a (if 1 ≤ c then 10 else 7) v
  y : ∀ v, Y = some v → at_ a (if 2 ≤ c then 14 else 11) v
  z : ∀ v, Z = some v → at_ a (if 3 ≤ c then 18 else 15) v
theorem run4 (h : ∀ v W', (Kd.int .i64).R 3 W' W.heap.size (fun _ => True) v [] → Below W.heap.size W W' → K (st a 7 v) W') : wpOp Try.prog ops Q 4 K a W := by
  refine wpOp_step (o := o4) rfl (fun K2 hK2 => ?_)
  have hu := Try.underlying22
  refine Kd.R_lit_step (Kd.int .i64) (w0 := W) W.heap.size 3 (by rfl) (N := 7) rfl (xs := ([] : List Int)) (inner := []) (ok := fun _ => True) (okp := fun _ => True) ?hr (Reps.none _ _) (fun _ hk => hk) trivial (Below.refl _ _) (Nat.le_refl _) (by simp) ?_
  case hr => unfold o4; first | (go_simp; done) | (go_simp; rfl)
  intro v W' hr hb hg hn
  exact hK2 _ _ (h v W' hr hb)
theorem run8 (h : ∀ v W', k74.R 74 W' W.heap.size (fun _ => True) v [] → Below W.heap.size W W' → K (st a 11 v) W') : wpOp Try.prog ops Q 8 K a W := by
  refine wpOp_step (o := o8) rfl (fun K2 hK2 => ?_)
  have hu := Try.underlying29
  refine Kd.R_lit_step k74 (w0 := W) W.heap.size 74 (by rfl) (N := 11) rfl (xs := ([] : List S74)) (inner := []) (ok := fun _ => True) (okp := fun _ => True) ?hr (Reps.none _ _) (fun _ hk => hk) trivial (Below.refl _ _) (Nat.le_refl _) (by simp) ?_
  case hr => unfold o8; first | (go_simp; done) | (go_simp; rfl)
  intro v W' hr hb hg hn
  exact hK2 _ _ (h v W' hr hb)
theorem run12 (h : ∀ v W', (Kd.int .i64).R 3 W' W.heap.size (fun _ => True) v [] → Below W.heap.size W W' → K (st a 15 v) W') : wpOp Try.prog ops Q 12 K a W := by
  refine wpOp_step (o := o12) rfl (fun K2 hK2 => ?_)
  have hu := Try.underlying22
  refine Kd.R_lit_step (Kd.int .i64) (w0 := W) W.heap.size 3 (by rfl) (N := 15) rfl (xs := ([] : List Int)) (inner := []) (ok := fun _ => True) (okp := fun _ => True) ?hr (Reps.none _ _) (fun _ hk => hk) trivial (Below.refl _ _) (Nat.le_refl _) (by simp) ?_
  case hr => unfold o12; first | (go_simp; done) | (go_simp; rfl)
  intro v W' hr hb hg hn
  exact hK2 _ _ (h v W' hr hb)
theorem run7 {A : Option Addr} {l : List Int} {n : Nat} (g0 : at_ a 7 v) (g1 : at_ a 9 (.slice A l.length n)) (d : Below w.heap.size w W) (HO : (Kd.int .i64).R 3 W w.heap.size (fun _ => True) v []) (HR : Kd.C (Kd.int .i64) w A l.length l) (hl : (0 + l.length) * 8 ≤ 140737488355328) (h : ∀ v' W', (Kd.int .i64).R 3 W' w.heap.size (fun _ => True) v' l → Below w.heap.size w W' → W.grownBy W' v.ownBlock → (v'.ownBlock = v.ownBlock ∨ ∃ b, v'.ownBlock = some b ∧ W.heap.size ≤ b) → K (st a 10 v') W') : wpOp Try.prog ops Q 7 K a W := by
  refine wpOp_step (o := o7) rfl (fun K2 hK2 => ?_)
  refine Kd.R_append_rows_step (Kd.int .i64) (w0 := w) w.heap.size (by rfl) (.tmp 7) (.tmp 9) 22 3 (.int .i64 0) 8 rfl Try.underlying22 info3 rfl (by decide) (by omega) v [] l A l.length n (fun _ => True) (fun _ => False) (ev g0) (ev g1) HO (Kd.C_below HR d) (fun _ _ h => h) (fun _ h => h.elim) (fun _ _ => trivial) d d.size hl ?_
  intro v' W' hr hb hg hn
  exact hK2 _ _ (h v' W' hr hb hg hn)
theorem run11 {A : Option Addr} {l : List S74} {n : Nat} (g0 : at_ a 11 v) (g1 : at_ a 13 (.slice A l.length n)) (d : Below w.heap.size w W) (HO : k74.R 74 W w.heap.size (fun _ => True) v []) (HR : Kd.C k74 w A l.length l) (hl : (0 + l.length) * 16 ≤ 140737488355328) (h : ∀ v' W', k74.R 74 W' w.heap.size (fun _ => True) v' l → Below w.heap.size w W' → W.grownBy W' v.ownBlock → (v'.ownBlock = v.ownBlock ∨ ∃ b, v'.ownBlock = some b ∧ W.heap.size ≤ b) → K (st a 14 v') W') : wpOp Try.prog ops Q 11 K a W := by
  refine wpOp_step (o := o11) rfl (fun K2 hK2 => ?_)
  refine Kd.R_append_rows_step k74 (w0 := w) w.heap.size (by rfl) (.tmp 11) (.tmp 13) 29 74 (.agg #[.int .i64 0, .int .i64 0]) 16 rfl Try.underlying29 info74 rfl (by decide) (by omega) v [] l A l.length n (fun _ => True) (fun _ => False) (ev g0) (ev g1) HO (Kd.C_below HR d) (fun _ _ h => h) (fun _ h => h.elim) (fun _ _ => trivial) d d.size hl ?_
  intro v' W' hr hb hg hn
  exact hK2 _ _ (h v' W' hr hb hg hn)
theorem run15 {A : Option Addr} {l : List Int} {n : Nat} (g0 : at_ a 15 v) (g1 : at_ a 17 (.slice A l.length n)) (d : Below w.heap.size w W) (HO : (Kd.int .i64).R 3 W w.heap.size (fun _ => True) v []) (HR : Kd.C (Kd.int .i64) w A l.length l) (hl : (0 + l.length) * 8 ≤ 140737488355328) (h : ∀ v' W', (Kd.int .i64).R 3 W' w.heap.size (fun _ => True) v' l → Below w.heap.size w W' → W.grownBy W' v.ownBlock → (v'.ownBlock = v.ownBlock ∨ ∃ b, v'.ownBlock = some b ∧ W.heap.size ≤ b) → K (st a 18 v') W') : wpOp Try.prog ops Q 15 K a W := by
  refine wpOp_step (o := o15) rfl (fun K2 hK2 => ?_)
  refine Kd.R_append_rows_step (Kd.int .i64) (w0 := w) w.heap.size (by rfl) (.tmp 15) (.tmp 17) 22 3 (.int .i64 0) 8 rfl Try.underlying22 info3 rfl (by decide) (by omega) v [] l A l.length n (fun _ => True) (fun _ => False) (ev g0) (ev g1) HO (Kd.C_below HR d) (fun _ _ h => h) (fun _ h => h.elim) (fun _ _ => trivial) d d.size hl ?_
  intro v' W' hr hb hg hn
  exact hK2 _ _ (h v' W' hr hb hg hn)
theorem run16 {B2 B3 B4 : Option Addr} {m2 m3 m4 d2 d3 d4 : Nat} (e0 : at_ a 4 (.int .i64 p.T)) (e1 : at_ a 6 (.int .i64 p.E)) (e2 : at_ a 10 (.slice B2 m2 d2)) (e3 : at_ a 14 (.slice B3 m3 d3)) (e4 : at_ a 18 (.slice B4 m4 d4)) (h : K (st a 19 (.agg #[.int .i64 p.T, .int .i64 p.E, .slice B2 m2 d2, .slice B3 m3 d3, .slice B4 m4 d4])) W) : wpOp Try.prog ops Q 16 K a W := by
  refine wpOp_step (o := o16) rfl (fun K2 hK2 => ?_)
  unfold o16
  have hu := Try.underlying31
  have h_ := Aside0.mk h; clear h
  go_simp
  exact hK2 _ _ h_.out
theorem run17 {B2 B3 B4 : Option Addr} {m2 m3 m4 d2 d3 d4 : Nat} (g0 : at_ a 2 (pt g2)) (g1 : at_ a 19 (.agg #[.int .i64 p.T, .int .i64 p.E, .slice B2 m2 d2, .slice B3 m3 d3, .slice B4 m4 d4])) (hb : W.heap[g2]? = some zS) (h : K a (((((W.setCell ⟨g2, 0, none⟩ (.int .i64 p.T)).setCell ⟨g2, 1, none⟩ (.int .i64 p.E)).setCell ⟨g2, 2, none⟩ (.slice B2 m2 d2)).setCell ⟨g2, 3, none⟩ (.slice B3 m3 d3)).setCell ⟨g2, 4, none⟩ (.slice B4 m4 d4))) : wpOp Try.prog ops Q 17 K a W := by
  refine wpOp_step (o := o17) rfl (fun K2 hK2 => ?_)
  unfold o17
  have hu := Try.underlying31
  have q0 := blk_cell hb 0
  have q1 := blk_cell hb 1
  have q2 := blk_cell hb 2
  have q3 := blk_cell hb 3
  have q4 := blk_cell hb 4
  have qf := blk_frozen hb
  have h_ := Aside0.mk h; clear h hb
  go_simp
  exact hK2 _ _ h_.out
theorem Rw.set {b : Nat} {xs zs : List Int} {ys : List S74} {g t : Nat} {cs : Array Value} (r : Rw b X Y Z xs ys zs W) (hb : W.heap[g]? = some (.cells cs t (0, 0))) (h1 : 3 ≠ t) (h2 : 74 ≠ t) (j : Nat) (e : Value) : Rw b X Y Z xs ys zs (W.setCell ⟨g, j, none⟩ e) :=
  ⟨fun v h => Kd.R_set (r.x v h) hb (by intro q hq; rw [List.mem_singleton.1 hq]; exact h1) j e, fun v h => Kd.R_set (r.y v h) hb (by intro q hq; rw [List.mem_singleton.1 hq]; exact h2) j e, fun v h => Kd.R_set (r.z v h) hb (by intro q hq; rw [List.mem_singleton.1 hq]; exact h1) j e, r.xz⟩
theorem Rw.five {b : Nat} {xs zs : List Int} {ys : List S74} {h : Nat} {T E : Int} {u v x : Value} (t : Rw b X Y Z xs ys zs W) (r : W.heap[h]? = some zS) : Rw b X Y Z xs ys zs (((((W.setCell ⟨h, 0, none⟩ (.int .i64 T)).setCell ⟨h, 1, none⟩ (.int .i64 E)).setCell ⟨h, 2, none⟩ u).setCell ⟨h, 3, none⟩ v).setCell ⟨h, 4, none⟩ x) :=
  (((((t.set r (by decide) (by decide) 0 _).set (blk_put r 0 _ rfl) (by decide) (by decide) 1 _).set (blk_put (blk_put r 0 _ rfl) 1 _ rfl) (by decide) (by decide) 2 _).set (blk_put (blk_put (blk_put r 0 _ rfl) 1 _ rfl) 2 _ rfl) (by decide) (by decide) 3 _).set (blk_put (blk_put (blk_put (blk_put r 0 _ rfl) 1 _ rfl) 2 _ rfl) 3 _ rfl) (by decide) (by decide) 4 _)
theorem tail (X1 : Cx p a0 w W0 Q g1 g2) (H : Nd p a0 w g1 g2 3 (some u) (some v) (some q) a W) : wpAnyH Try.prog .any ops Q (fun W => Below w.heap.size w W ∧ W.heap[g1]? = some (.cells p.cs 31 (0, 0))) 2 (L 3 true true true) a W := by
  obtain ⟨B2, d2, e2⟩ := Kd.R_slice (H.r.x u rfl)
  obtain ⟨B3, d3, e3⟩ := Kd.R_slice (H.r.y v rfl)
  obtain ⟨B4, d4, e4⟩ := Kd.R_slice (H.r.z q rfl)
  subst e2 e3 e4
  refine wpAnyH_all (rs := [16]) (by kernel_rfl) (by simp) ?_
  intro i hi; rw [List.mem_singleton.1 hi]
  refine run16 H.e4 H.e6 (H.x _ rfl) (H.y _ rfl) (H.z _ rfl) ⟨⟨H.s.d, H.s.b1⟩, ?_⟩
  refine wpAnyH_all (rs := [17]) (by kernel_rfl) (by simp) ?_
  intro i hi; rw [List.mem_singleton.1 hi]
  have hz : a.tmps.size = 20 := H.fa.sz.trans X1.sz
  have h2 : at_ a 2 (pt g2) := (congrArg (fun t => Option.getD t undef) (H.fa.eq 2 (by decide))).trans X1.p2
  refine run17 (st_ne (by decide) h2) (st_eq (by rw [hz]; decide)) H.s.b2 ⟨⟨five_below H.s.d X1.lg, ?_⟩, ?_⟩
  · exact blk_far (blk_far (blk_far (blk_far (blk_far H.s.b1 (p := ⟨g2, 0, none⟩) X1.ne _) (p := ⟨g2, 1, none⟩) X1.ne _) (p := ⟨g2, 2, none⟩) X1.ne _) (p := ⟨g2, 3, none⟩) X1.ne _) (p := ⟨g2, 4, none⟩) X1.ne _
  · refine wpAnyH_done (by kernel_rfl) ?_ _
    exact X1.hq _ _ _ _ _ H.fa.df (st_ne (by decide) h2) (five_below H.s.d X1.lg) (put5 H.s.b2) (H.r.five H.s.b2)
theorem Nd.mx0 (X1 : Cx p a0 w W0 Q g1 g2) {v : Value} {W' : World} (H : Nd p a0 w g1 g2 0 none Y Z a W) (n : (Kd.int .i64).R 3 W' W.heap.size (fun _ => True) v []) (h : Below W.heap.size W W') : Nd p a0 w g1 g2 0 (some v) Y Z (st a 7 v) W' :=
  ⟨H.fa.put (by decide) _, H.s.below h, st_ne (by decide) H.e4, st_ne (by decide) H.e6, st_ne (by decide) H.e9, st_ne (by decide) H.e13, st_ne (by decide) H.e17, H.r.mkx H.s.d.size n h, fun u e => by cases e; exact st_eq (by rw [H.fa.sz, X1.sz]; decide), fun u e => st_ne (by decide) (H.y u e), fun u e => st_ne (by decide) (H.z u e)⟩
theorem Nd.my0 (X1 : Cx p a0 w W0 Q g1 g2) {v : Value} {W' : World} (H : Nd p a0 w g1 g2 0 X none Z a W) (n : k74.R 74 W' W.heap.size (fun _ => True) v []) (h : Below W.heap.size W W') : Nd p a0 w g1 g2 0 X (some v) Z (st a 11 v) W' :=
  ⟨H.fa.put (by decide) _, H.s.below h, st_ne (by decide) H.e4, st_ne (by decide) H.e6, st_ne (by decide) H.e9, st_ne (by decide) H.e13, st_ne (by decide) H.e17, H.r.mky H.s.d.size n h, fun u e => st_ne (by decide) (H.x u e), fun u e => by cases e; exact st_eq (by rw [H.fa.sz, X1.sz]; decide), fun u e => st_ne (by decide) (H.z u e)⟩
theorem Nd.my1 (X1 : Cx p a0 w W0 Q g1 g2) {v : Value} {W' : World} (H : Nd p a0 w g1 g2 1 X none Z a W) (n : k74.R 74 W' W.heap.size (fun _ => True) v []) (h : Below W.heap.size W W') : Nd p a0 w g1 g2 1 X (some v) Z (st a 11 v) W' :=
  ⟨H.fa.put (by decide) _, H.s.below h, st_ne (by decide) H.e4, st_ne (by decide) H.e6, st_ne (by decide) H.e9, st_ne (by decide) H.e13, st_ne (by decide) H.e17, H.r.mky H.s.d.size n h, fun u e => st_ne (by decide) (H.x u e), fun u e => by cases e; exact st_eq (by rw [H.fa.sz, X1.sz]; decide), fun u e => st_ne (by decide) (H.z u e)⟩
theorem Nd.mz0 (X1 : Cx p a0 w W0 Q g1 g2) {v : Value} {W' : World} (H : Nd p a0 w g1 g2 0 X Y none a W) (n : (Kd.int .i64).R 3 W' W.heap.size (fun _ => True) v []) (h : Below W.heap.size W W') : Nd p a0 w g1 g2 0 X Y (some v) (st a 15 v) W' :=
  ⟨H.fa.put (by decide) _, H.s.below h, st_ne (by decide) H.e4, st_ne (by decide) H.e6, st_ne (by decide) H.e9, st_ne (by decide) H.e13, st_ne (by decide) H.e17, H.r.mkz H.s.d.size n h, fun u e => st_ne (by decide) (H.x u e), fun u e => st_ne (by decide) (H.y u e), fun u e => by cases e; exact st_eq (by rw [H.fa.sz, X1.sz]; decide)⟩
theorem Nd.mz1 (X1 : Cx p a0 w W0 Q g1 g2) {v : Value} {W' : World} (H : Nd p a0 w g1 g2 1 X Y none a W) (n : (Kd.int .i64).R 3 W' W.heap.size (fun _ => True) v []) (h : Below W.heap.size W W') : Nd p a0 w g1 g2 1 X Y (some v) (st a 15 v) W' :=
  ⟨H.fa.put (by decide) _, H.s.below h, st_ne (by decide) H.e4, st_ne (by decide) H.e6, st_ne (by decide) H.e9, st_ne (by decide) H.e13, st_ne (by decide) H.e17, H.r.mkz H.s.d.size n h, fun u e => st_ne (by decide) (H.x u e), fun u e => st_ne (by decide) (H.y u e), fun u e => by cases e; exact st_eq (by rw [H.fa.sz, X1.sz]; decide)⟩
theorem Nd.mz2 (X1 : Cx p a0 w W0 Q g1 g2) {v : Value} {W' : World} (H : Nd p a0 w g1 g2 2 X Y none a W) (n : (Kd.int .i64).R 3 W' W.heap.size (fun _ => True) v []) (h : Below W.heap.size W W') : Nd p a0 w g1 g2 2 X Y (some v) (st a 15 v) W' :=
  ⟨H.fa.put (by decide) _, H.s.below h, st_ne (by decide) H.e4, st_ne (by decide) H.e6, st_ne (by decide) H.e9, st_ne (by decide) H.e13, st_ne (by decide) H.e17, H.r.mkz H.s.d.size n h, fun u e => st_ne (by decide) (H.x u e), fun u e => st_ne (by decide) (H.y u e), fun u e => by cases e; exact st_eq (by rw [H.fa.sz, X1.sz]; decide)⟩
theorem Nd.ax (X1 : Cx p a0 w W0 Q g1 g2) {v v' : Value} {W' : World} (H : Nd p a0 w g1 g2 0 (some v) Y Z a W) (n : (Kd.int .i64).R 3 W' w.heap.size (fun _ => True) v' p.l2) (h : Below w.heap.size w W') (hg : W.grownBy W' v.ownBlock) (ht : v'.ownBlock = v.ownBlock ∨ ∃ b, v'.ownBlock = some b ∧ W.heap.size ≤ b) : Nd p a0 w g1 g2 1 (some v') Y Z (st a 10 v') W' :=
  ⟨H.fa.put (by decide) _, H.s.grown h hg (fun _ _ hb => Kd.R_ne (H.r.x v rfl) hb (by decide)), st_ne (by decide) H.e4, st_ne (by decide) H.e6, st_ne (by decide) H.e9, st_ne (by decide) H.e13, st_ne (by decide) H.e17, H.r.apx n hg ht, fun u e => by cases e; exact st_eq (by rw [H.fa.sz, X1.sz]; decide), fun u e => st_ne (by decide) (H.y u e), fun u e => st_ne (by decide) (H.z u e)⟩
theorem Nd.ay (X1 : Cx p a0 w W0 Q g1 g2) {v v' : Value} {W' : World} (H : Nd p a0 w g1 g2 1 X (some v) Z a W) (n : k74.R 74 W' w.heap.size (fun _ => True) v' p.l3) (h : Below w.heap.size w W') (hg : W.grownBy W' v.ownBlock) (ht : v'.ownBlock = v.ownBlock ∨ ∃ b, v'.ownBlock = some b ∧ W.heap.size ≤ b) : Nd p a0 w g1 g2 2 X (some v') Z (st a 14 v') W' :=
  ⟨H.fa.put (by decide) _, H.s.grown h hg (fun _ _ hb => Kd.R_ne (H.r.y v rfl) hb (by decide)), st_ne (by decide) H.e4, st_ne (by decide) H.e6, st_ne (by decide) H.e9, st_ne (by decide) H.e13, st_ne (by decide) H.e17, H.r.apy n hg ht, fun u e => st_ne (by decide) (H.x u e), fun u e => by cases e; exact st_eq (by rw [H.fa.sz, X1.sz]; decide), fun u e => st_ne (by decide) (H.z u e)⟩
theorem Nd.az (X1 : Cx p a0 w W0 Q g1 g2) {v v' : Value} {W' : World} (H : Nd p a0 w g1 g2 2 X Y (some v) a W) (n : (Kd.int .i64).R 3 W' w.heap.size (fun _ => True) v' p.l4) (h : Below w.heap.size w W') (hg : W.grownBy W' v.ownBlock) (ht : v'.ownBlock = v.ownBlock ∨ ∃ b, v'.ownBlock = some b ∧ W.heap.size ≤ b) : Nd p a0 w g1 g2 3 X Y (some v') (st a 18 v') W' :=
  ⟨H.fa.put (by decide) _, H.s.grown h hg (fun _ _ hb => Kd.R_ne (H.r.z v rfl) hb (by decide)), st_ne (by decide) H.e4, st_ne (by decide) H.e6, st_ne (by decide) H.e9, st_ne (by decide) H.e13, st_ne (by decide) H.e17, H.r.apz n hg ht, fun u e => st_ne (by decide) (H.x u e), fun u e => st_ne (by decide) (H.y u e), fun u e => by cases e; exact st_eq (by rw [H.fa.sz, X1.sz]; decide)⟩
theorem node2111 (X1 : Cx p a0 w W0 Q g1 g2) (H : Nd p a0 w g1 g2 2 (some u) (some v) (some q) a W) : wpAnyH Try.prog .any ops Q (fun W => Below w.heap.size w W ∧ W.heap[g1]? = some (.cells p.cs 31 (0, 0))) 3 (L 2 true true true) a W := by
  refine wpAnyH_all (rs := [15]) (by kernel_rfl) (by simp) ?_
  intro i hi
  simp only [List.mem_cons, List.not_mem_nil, or_false] at hi
  rcases hi with rfl
  · exact run15 (H.z _ rfl) H.e17 H.s.d (H.r.z _ rfl) X1.r4 (by have := X1.n4; omega) (fun v' W' n h hg ht => have H2 := H.az X1 n h hg ht; ⟨⟨H2.s.d, H2.s.b1⟩, tail X1 H2⟩)
theorem node2110 (X1 : Cx p a0 w W0 Q g1 g2) (H : Nd p a0 w g1 g2 2 (some u) (some v) none a W) : wpAnyH Try.prog .any ops Q (fun W => Below w.heap.size w W ∧ W.heap[g1]? = some (.cells p.cs 31 (0, 0))) 4 (L 2 true true false) a W := by
  refine wpAnyH_all (rs := [12]) (by kernel_rfl) (by simp) ?_
  intro i hi
  simp only [List.mem_cons, List.not_mem_nil, or_false] at hi
  rcases hi with rfl
  · exact run12 (fun v W' n h => have H2 := H.mz2 X1 n h; ⟨⟨H2.s.d, H2.s.b1⟩, node2111 X1 H2⟩)
theorem node1111 (X1 : Cx p a0 w W0 Q g1 g2) (H : Nd p a0 w g1 g2 1 (some u) (some v) (some q) a W) : wpAnyH Try.prog .any ops Q (fun W => Below w.heap.size w W ∧ W.heap[g1]? = some (.cells p.cs 31 (0, 0))) 4 (L 1 true true true) a W := by
  refine wpAnyH_all (rs := [11]) (by kernel_rfl) (by simp) ?_
  intro i hi
  simp only [List.mem_cons, List.not_mem_nil, or_false] at hi
  rcases hi with rfl
  · exact run11 (H.y _ rfl) H.e13 H.s.d (H.r.y _ rfl) X1.r3 (by have := X1.n3; omega) (fun v' W' n h hg ht => have H2 := H.ay X1 n h hg ht; ⟨⟨H2.s.d, H2.s.b1⟩, node2111 X1 H2⟩)
theorem node1101 (X1 : Cx p a0 w W0 Q g1 g2) (H : Nd p a0 w g1 g2 1 (some u) none (some q) a W) : wpAnyH Try.prog .any ops Q (fun W => Below w.heap.size w W ∧ W.heap[g1]? = some (.cells p.cs 31 (0, 0))) 5 (L 1 true false true) a W := by
  refine wpAnyH_all (rs := [8]) (by kernel_rfl) (by simp) ?_
  intro i hi
  simp only [List.mem_cons, List.not_mem_nil, or_false] at hi
  rcases hi with rfl
  · exact run8 (fun v W' n h => have H2 := H.my1 X1 n h; ⟨⟨H2.s.d, H2.s.b1⟩, node1111 X1 H2⟩)
theorem node1110 (X1 : Cx p a0 w W0 Q g1 g2) (H : Nd p a0 w g1 g2 1 (some u) (some v) none a W) : wpAnyH Try.prog .any ops Q (fun W => Below w.heap.size w W ∧ W.heap[g1]? = some (.cells p.cs 31 (0, 0))) 5 (L 1 true true false) a W := by
  refine wpAnyH_all (rs := [11, 12]) (by kernel_rfl) (by simp) ?_
  intro i hi
  simp only [List.mem_cons, List.not_mem_nil, or_false] at hi
  rcases hi with rfl | rfl
  · exact run11 (H.y _ rfl) H.e13 H.s.d (H.r.y _ rfl) X1.r3 (by have := X1.n3; omega) (fun v' W' n h hg ht => have H2 := H.ay X1 n h hg ht; ⟨⟨H2.s.d, H2.s.b1⟩, node2110 X1 H2⟩)
  · exact run12 (fun v W' n h => have H2 := H.mz1 X1 n h; ⟨⟨H2.s.d, H2.s.b1⟩, node1111 X1 H2⟩)
theorem node1100 (X1 : Cx p a0 w W0 Q g1 g2) (H : Nd p a0 w g1 g2 1 (some u) none none a W) : wpAnyH Try.prog .any ops Q (fun W => Below w.heap.size w W ∧ W.heap[g1]? = some (.cells p.cs 31 (0, 0))) 6 (L 1 true false false) a W := by
  refine wpAnyH_all (rs := [8, 12]) (by kernel_rfl) (by simp) ?_
  intro i hi
  simp only [List.mem_cons, List.not_mem_nil, or_false] at hi
  rcases hi with rfl | rfl
  · exact run8 (fun v W' n h => have H2 := H.my1 X1 n h; ⟨⟨H2.s.d, H2.s.b1⟩, node1110 X1 H2⟩)
  · exact run12 (fun v W' n h => have H2 := H.mz1 X1 n h; ⟨⟨H2.s.d, H2.s.b1⟩, node1101 X1 H2⟩)
theorem node0111 (X1 : Cx p a0 w W0 Q g1 g2) (H : Nd p a0 w g1 g2 0 (some u) (some v) (some q) a W) : wpAnyH Try.prog .any ops Q (fun W => Below w.heap.size w W ∧ W.heap[g1]? = some (.cells p.cs 31 (0, 0))) 5 (L 0 true true true) a W := by
  refine wpAnyH_all (rs := [7]) (by kernel_rfl) (by simp) ?_
  intro i hi
  simp only [List.mem_cons, List.not_mem_nil, or_false] at hi
  rcases hi with rfl
  · exact run7 (H.x _ rfl) H.e9 H.s.d (H.r.x _ rfl) X1.r2 (by have := X1.n2; omega) (fun v' W' n h hg ht => have H2 := H.ax X1 n h hg ht; ⟨⟨H2.s.d, H2.s.b1⟩, node1111 X1 H2⟩)
theorem node0011 (X1 : Cx p a0 w W0 Q g1 g2) (H : Nd p a0 w g1 g2 0 none (some v) (some q) a W) : wpAnyH Try.prog .any ops Q (fun W => Below w.heap.size w W ∧ W.heap[g1]? = some (.cells p.cs 31 (0, 0))) 6 (L 0 false true true) a W := by
  refine wpAnyH_all (rs := [4]) (by kernel_rfl) (by simp) ?_
  intro i hi
  simp only [List.mem_cons, List.not_mem_nil, or_false] at hi
  rcases hi with rfl
  · exact run4 (fun v W' n h => have H2 := H.mx0 X1 n h; ⟨⟨H2.s.d, H2.s.b1⟩, node0111 X1 H2⟩)
theorem node0101 (X1 : Cx p a0 w W0 Q g1 g2) (H : Nd p a0 w g1 g2 0 (some u) none (some q) a W) : wpAnyH Try.prog .any ops Q (fun W => Below w.heap.size w W ∧ W.heap[g1]? = some (.cells p.cs 31 (0, 0))) 6 (L 0 true false true) a W := by
  refine wpAnyH_all (rs := [7, 8]) (by kernel_rfl) (by simp) ?_
  intro i hi
  simp only [List.mem_cons, List.not_mem_nil, or_false] at hi
  rcases hi with rfl | rfl
  · exact run7 (H.x _ rfl) H.e9 H.s.d (H.r.x _ rfl) X1.r2 (by have := X1.n2; omega) (fun v' W' n h hg ht => have H2 := H.ax X1 n h hg ht; ⟨⟨H2.s.d, H2.s.b1⟩, node1101 X1 H2⟩)
  · exact run8 (fun v W' n h => have H2 := H.my0 X1 n h; ⟨⟨H2.s.d, H2.s.b1⟩, node0111 X1 H2⟩)
theorem node0110 (X1 : Cx p a0 w W0 Q g1 g2) (H : Nd p a0 w g1 g2 0 (some u) (some v) none a W) : wpAnyH Try.prog .any ops Q (fun W => Below w.heap.size w W ∧ W.heap[g1]? = some (.cells p.cs 31 (0, 0))) 6 (L 0 true true false) a W := by
  refine wpAnyH_all (rs := [7, 12]) (by kernel_rfl) (by simp) ?_
  intro i hi
  simp only [List.mem_cons, List.not_mem_nil, or_false] at hi
  rcases hi with rfl | rfl
  · exact run7 (H.x _ rfl) H.e9 H.s.d (H.r.x _ rfl) X1.r2 (by have := X1.n2; omega) (fun v' W' n h hg ht => have H2 := H.ax X1 n h hg ht; ⟨⟨H2.s.d, H2.s.b1⟩, node1110 X1 H2⟩)
  · exact run12 (fun v W' n h => have H2 := H.mz0 X1 n h; ⟨⟨H2.s.d, H2.s.b1⟩, node0111 X1 H2⟩)
theorem node0001 (X1 : Cx p a0 w W0 Q g1 g2) (H : Nd p a0 w g1 g2 0 none none (some q) a W) : wpAnyH Try.prog .any ops Q (fun W => Below w.heap.size w W ∧ W.heap[g1]? = some (.cells p.cs 31 (0, 0))) 7 (L 0 false false true) a W := by
  refine wpAnyH_all (rs := [4, 8]) (by kernel_rfl) (by simp) ?_
  intro i hi
  simp only [List.mem_cons, List.not_mem_nil, or_false] at hi
  rcases hi with rfl | rfl
  · exact run4 (fun v W' n h => have H2 := H.mx0 X1 n h; ⟨⟨H2.s.d, H2.s.b1⟩, node0101 X1 H2⟩)
  · exact run8 (fun v W' n h => have H2 := H.my0 X1 n h; ⟨⟨H2.s.d, H2.s.b1⟩, node0011 X1 H2⟩)
theorem node0010 (X1 : Cx p a0 w W0 Q g1 g2) (H : Nd p a0 w g1 g2 0 none (some v) none a W) : wpAnyH Try.prog .any ops Q (fun W => Below w.heap.size w W ∧ W.heap[g1]? = some (.cells p.cs 31 (0, 0))) 7 (L 0 false true false) a W := by
  refine wpAnyH_all (rs := [4, 12]) (by kernel_rfl) (by simp) ?_
  intro i hi
  simp only [List.mem_cons, List.not_mem_nil, or_false] at hi
  rcases hi with rfl | rfl
  · exact run4 (fun v W' n h => have H2 := H.mx0 X1 n h; ⟨⟨H2.s.d, H2.s.b1⟩, node0110 X1 H2⟩)
  · exact run12 (fun v W' n h => have H2 := H.mz0 X1 n h; ⟨⟨H2.s.d, H2.s.b1⟩, node0011 X1 H2⟩)
theorem node0100 (X1 : Cx p a0 w W0 Q g1 g2) (H : Nd p a0 w g1 g2 0 (some u) none none a W) : wpAnyH Try.prog .any ops Q (fun W => Below w.heap.size w W ∧ W.heap[g1]? = some (.cells p.cs 31 (0, 0))) 7 (L 0 true false false) a W := by
  refine wpAnyH_all (rs := [7, 8, 12]) (by kernel_rfl) (by simp) ?_
  intro i hi
  simp only [List.mem_cons, List.not_mem_nil, or_false] at hi
  rcases hi with rfl | rfl | rfl
  · exact run7 (H.x _ rfl) H.e9 H.s.d (H.r.x _ rfl) X1.r2 (by have := X1.n2; omega) (fun v' W' n h hg ht => have H2 := H.ax X1 n h hg ht; ⟨⟨H2.s.d, H2.s.b1⟩, node1100 X1 H2⟩)
  · exact run8 (fun v W' n h => have H2 := H.my0 X1 n h; ⟨⟨H2.s.d, H2.s.b1⟩, node0110 X1 H2⟩)
  · exact run12 (fun v W' n h => have H2 := H.mz0 X1 n h; ⟨⟨H2.s.d, H2.s.b1⟩, node0101 X1 H2⟩)
theorem node0000 (X1 : Cx p a0 w W0 Q g1 g2) (H : Nd p a0 w g1 g2 0 none none none a W) : wpAnyH Try.prog .any ops Q (fun W => Below w.heap.size w W ∧ W.heap[g1]? = some (.cells p.cs 31 (0, 0))) 8 (L 0 false false false) a W := by
  refine wpAnyH_all (rs := [4, 8, 12]) (by kernel_rfl) (by simp) ?_
  intro i hi
  simp only [List.mem_cons, List.not_mem_nil, or_false] at hi
  rcases hi with rfl | rfl | rfl
  · exact run4 (fun v W' n h => have H2 := H.mx0 X1 n h; ⟨⟨H2.s.d, H2.s.b1⟩, node0100 X1 H2⟩)
  · exact run8 (fun v W' n h => have H2 := H.my0 X1 n h; ⟨⟨H2.s.d, H2.s.b1⟩, node0010 X1 H2⟩)
  · exact run12 (fun v W' n h => have H2 := H.mz0 X1 n h; ⟨⟨H2.s.d, H2.s.b1⟩, node0001 X1 H2⟩)
theorem whole (X1 : Cx p a0 w W0 Q g1 g2) (hW : W0.drew = W) : (Code.region 1 ops true).wp Try.prog Q a0 W0 := by
  have s0 : Sx w g1 g2 p.cs W0.drew := ⟨X1.s0.d.drew, X1.s0.b1, X1.s0.b2⟩
  refine wp_region_held_drew (S := (fun W => Below w.heap.size w W ∧ W.heap[g1]? = some (.cells p.cs 31 (0, 0)))) (by kernel_rfl) ⟨s0.d, s0.b1⟩ (fun d0 => ?_)
  have f1 : at_ a0 1 (pt g1) := X1.p1
  have hs0 : Aside0 (a0.tmps.size = 20) := ⟨X1.sz⟩
  refine wpAnyH_take (i := 0) (oi := o0) (v := (.pointer (some ⟨g1, 0, none⟩))) rfl (by kernel_rfl) (by kernel_rfl) (by kernel_rfl) (fun c a w h => X1.hp c a 3 _ w h) (Or.inl ⟨by rfl, fun W2 h2 => by have g := f1; unfold o0; have hu := Try.underlying31; go_simp⟩) d0 ?_
  obtain ⟨b0, hb⟩ : ∃ b, b = st a0 3 (.pointer (some ⟨g1, 0, none⟩)) := ⟨_, rfl⟩
  rw [show (Act.put a0 o0.dst (.pointer (some ⟨g1, 0, none⟩))) = b0 by rw [hb]; rfl]
  have hs1 : Aside0 (b0.tmps.size = 20) := ⟨by rw [hb]; exact Array.size_setIfInBounds.trans hs0.out⟩
  have fa0 : Fa D a0 b0 := by rw [hb]; exact Fa.put (Fa.refl D a0) (by decide) _
  have p0 : at_ b0 3 (.pointer (some ⟨g1, 0, none⟩)) := by rw [hb]; exact st_eq (by rw [hs0.out]; decide)
  replace f1 : at_ b0 1 (pt g1) := by rw [hb]; exact st_ne (by decide) f1
  clear hb
  refine wpAnyH_take (i := 1) (oi := o1) (v := (.int .i64 p.T)) rfl (by kernel_rfl) (by kernel_rfl) (by kernel_rfl) (fun c a w h => X1.hp c a 4 _ w h) (Or.inl ⟨by rfl, fun W2 h2 => by have g := p0; have c0 : W2.cell? ⟨g1, 0, none⟩ = some (.int .i64 p.T) := (blk_cell h2.2 0).trans rfl; unfold o1; go_simp⟩) d0 ?_
  obtain ⟨b1, hb⟩ : ∃ b, b = st b0 4 (.int .i64 p.T) := ⟨_, rfl⟩
  rw [show (Act.put b0 o1.dst (.int .i64 p.T)) = b1 by rw [hb]; rfl]
  have hs2 : Aside0 (b1.tmps.size = 20) := ⟨by rw [hb]; exact Array.size_setIfInBounds.trans hs1.out⟩
  have fa1 : Fa D a0 b1 := by rw [hb]; exact Fa.put (fa0) (by decide) _
  have p1 : at_ b1 4 (.int .i64 p.T) := by rw [hb]; exact st_eq (by rw [hs1.out]; decide)
  replace f1 : at_ b1 1 (pt g1) := by rw [hb]; exact st_ne (by decide) f1
  have k4 := p1
  clear hb
  refine wpAnyH_take (i := 2) (oi := o2) (v := (.pointer (some ⟨g1, 1, none⟩))) rfl (by kernel_rfl) (by kernel_rfl) (by kernel_rfl) (fun c a w h => X1.hp c a 5 _ w h) (Or.inl ⟨by rfl, fun W2 h2 => by have g := f1; unfold o2; have hu := Try.underlying31; go_simp⟩) d0 ?_
  obtain ⟨b2, hb⟩ : ∃ b, b = st b1 5 (.pointer (some ⟨g1, 1, none⟩)) := ⟨_, rfl⟩
  rw [show (Act.put b1 o2.dst (.pointer (some ⟨g1, 1, none⟩))) = b2 by rw [hb]; rfl]
  have hs3 : Aside0 (b2.tmps.size = 20) := ⟨by rw [hb]; exact Array.size_setIfInBounds.trans hs2.out⟩
  have fa2 : Fa D a0 b2 := by rw [hb]; exact Fa.put (fa1) (by decide) _
  have p2 : at_ b2 5 (.pointer (some ⟨g1, 1, none⟩)) := by rw [hb]; exact st_eq (by rw [hs2.out]; decide)
  replace f1 : at_ b2 1 (pt g1) := by rw [hb]; exact st_ne (by decide) f1
  replace k4 : at_ b2 4 (.int .i64 p.T) := by rw [hb]; exact st_ne (by decide) k4
  clear hb
  refine wpAnyH_take (i := 3) (oi := o3) (v := (.int .i64 p.E)) rfl (by kernel_rfl) (by kernel_rfl) (by kernel_rfl) (fun c a w h => X1.hp c a 6 _ w h) (Or.inl ⟨by rfl, fun W2 h2 => by have g := p2; have c0 : W2.cell? ⟨g1, 1, none⟩ = some (.int .i64 p.E) := (blk_cell h2.2 1).trans rfl; unfold o3; go_simp⟩) d0 ?_
  obtain ⟨b3, hb⟩ : ∃ b, b = st b2 6 (.int .i64 p.E) := ⟨_, rfl⟩
  rw [show (Act.put b2 o3.dst (.int .i64 p.E)) = b3 by rw [hb]; rfl]
  have hs4 : Aside0 (b3.tmps.size = 20) := ⟨by rw [hb]; exact Array.size_setIfInBounds.trans hs3.out⟩
  have fa3 : Fa D a0 b3 := by rw [hb]; exact Fa.put (fa2) (by decide) _
  have p3 : at_ b3 6 (.int .i64 p.E) := by rw [hb]; exact st_eq (by rw [hs3.out]; decide)
  replace f1 : at_ b3 1 (pt g1) := by rw [hb]; exact st_ne (by decide) f1
  replace k4 : at_ b3 4 (.int .i64 p.T) := by rw [hb]; exact st_ne (by decide) k4
  have k6 := p3
  clear hb
  refine wpAnyH_take (i := 5) (oi := o5) (v := (.pointer (some ⟨g1, 2, none⟩))) rfl (by kernel_rfl) (by kernel_rfl) (by kernel_rfl) (fun c a w h => X1.hp c a 8 _ w h) (Or.inl ⟨by rfl, fun W2 h2 => by have g := f1; unfold o5; have hu := Try.underlying31; go_simp⟩) d0 ?_
  obtain ⟨b4, hb⟩ : ∃ b, b = st b3 8 (.pointer (some ⟨g1, 2, none⟩)) := ⟨_, rfl⟩
  rw [show (Act.put b3 o5.dst (.pointer (some ⟨g1, 2, none⟩))) = b4 by rw [hb]; rfl]
  have hs5 : Aside0 (b4.tmps.size = 20) := ⟨by rw [hb]; exact Array.size_setIfInBounds.trans hs4.out⟩
  have fa4 : Fa D a0 b4 := by rw [hb]; exact Fa.put (fa3) (by decide) _
  have p4 : at_ b4 8 (.pointer (some ⟨g1, 2, none⟩)) := by rw [hb]; exact st_eq (by rw [hs4.out]; decide)
  replace f1 : at_ b4 1 (pt g1) := by rw [hb]; exact st_ne (by decide) f1
  replace k4 : at_ b4 4 (.int .i64 p.T) := by rw [hb]; exact st_ne (by decide) k4
  replace k6 : at_ b4 6 (.int .i64 p.E) := by rw [hb]; exact st_ne (by decide) k6
  clear hb
  refine wpAnyH_take (i := 6) (oi := o6) (v := (.slice p.A2 p.l2.length p.c2)) rfl (by kernel_rfl) (by kernel_rfl) (by kernel_rfl) (fun c a w h => X1.hp c a 9 _ w h) (Or.inl ⟨by rfl, fun W2 h2 => by have g := p4; have c0 : W2.cell? ⟨g1, 2, none⟩ = some (.slice p.A2 p.l2.length p.c2) := (blk_cell h2.2 2).trans rfl; unfold o6; go_simp⟩) d0 ?_
  obtain ⟨b5, hb⟩ : ∃ b, b = st b4 9 (.slice p.A2 p.l2.length p.c2) := ⟨_, rfl⟩
  rw [show (Act.put b4 o6.dst (.slice p.A2 p.l2.length p.c2)) = b5 by rw [hb]; rfl]
  have hs6 : Aside0 (b5.tmps.size = 20) := ⟨by rw [hb]; exact Array.size_setIfInBounds.trans hs5.out⟩
  have fa5 : Fa D a0 b5 := by rw [hb]; exact Fa.put (fa4) (by decide) _
  have p5 : at_ b5 9 (.slice p.A2 p.l2.length p.c2) := by rw [hb]; exact st_eq (by rw [hs5.out]; decide)
  replace f1 : at_ b5 1 (pt g1) := by rw [hb]; exact st_ne (by decide) f1
  replace k4 : at_ b5 4 (.int .i64 p.T) := by rw [hb]; exact st_ne (by decide) k4
  replace k6 : at_ b5 6 (.int .i64 p.E) := by rw [hb]; exact st_ne (by decide) k6
  have k9 := p5
  clear hb
  refine wpAnyH_take (i := 9) (oi := o9) (v := (.pointer (some ⟨g1, 3, none⟩))) rfl (by kernel_rfl) (by kernel_rfl) (by kernel_rfl) (fun c a w h => X1.hp c a 12 _ w h) (Or.inl ⟨by rfl, fun W2 h2 => by have g := f1; unfold o9; have hu := Try.underlying31; go_simp⟩) d0 ?_
  obtain ⟨b6, hb⟩ : ∃ b, b = st b5 12 (.pointer (some ⟨g1, 3, none⟩)) := ⟨_, rfl⟩
  rw [show (Act.put b5 o9.dst (.pointer (some ⟨g1, 3, none⟩))) = b6 by rw [hb]; rfl]
  have hs7 : Aside0 (b6.tmps.size = 20) := ⟨by rw [hb]; exact Array.size_setIfInBounds.trans hs6.out⟩
  have fa6 : Fa D a0 b6 := by rw [hb]; exact Fa.put (fa5) (by decide) _
  have p6 : at_ b6 12 (.pointer (some ⟨g1, 3, none⟩)) := by rw [hb]; exact st_eq (by rw [hs6.out]; decide)
  replace f1 : at_ b6 1 (pt g1) := by rw [hb]; exact st_ne (by decide) f1
  replace k4 : at_ b6 4 (.int .i64 p.T) := by rw [hb]; exact st_ne (by decide) k4
  replace k6 : at_ b6 6 (.int .i64 p.E) := by rw [hb]; exact st_ne (by decide) k6
  replace k9 : at_ b6 9 (.slice p.A2 p.l2.length p.c2) := by rw [hb]; exact st_ne (by decide) k9
  clear hb
  refine wpAnyH_take (i := 10) (oi := o10) (v := (.slice p.A3 p.l3.length p.c3)) rfl (by kernel_rfl) (by kernel_rfl) (by kernel_rfl) (fun c a w h => X1.hp c a 13 _ w h) (Or.inl ⟨by rfl, fun W2 h2 => by have g := p6; have c0 : W2.cell? ⟨g1, 3, none⟩ = some (.slice p.A3 p.l3.length p.c3) := (blk_cell h2.2 3).trans rfl; unfold o10; go_simp⟩) d0 ?_
  obtain ⟨b7, hb⟩ : ∃ b, b = st b6 13 (.slice p.A3 p.l3.length p.c3) := ⟨_, rfl⟩
  rw [show (Act.put b6 o10.dst (.slice p.A3 p.l3.length p.c3)) = b7 by rw [hb]; rfl]
  have hs8 : Aside0 (b7.tmps.size = 20) := ⟨by rw [hb]; exact Array.size_setIfInBounds.trans hs7.out⟩
  have fa7 : Fa D a0 b7 := by rw [hb]; exact Fa.put (fa6) (by decide) _
  have p7 : at_ b7 13 (.slice p.A3 p.l3.length p.c3) := by rw [hb]; exact st_eq (by rw [hs7.out]; decide)
  replace f1 : at_ b7 1 (pt g1) := by rw [hb]; exact st_ne (by decide) f1
  replace k4 : at_ b7 4 (.int .i64 p.T) := by rw [hb]; exact st_ne (by decide) k4
  replace k6 : at_ b7 6 (.int .i64 p.E) := by rw [hb]; exact st_ne (by decide) k6
  replace k9 : at_ b7 9 (.slice p.A2 p.l2.length p.c2) := by rw [hb]; exact st_ne (by decide) k9
  have k13 := p7
  clear hb
  refine wpAnyH_take (i := 13) (oi := o13) (v := (.pointer (some ⟨g1, 4, none⟩))) rfl (by kernel_rfl) (by kernel_rfl) (by kernel_rfl) (fun c a w h => X1.hp c a 16 _ w h) (Or.inl ⟨by rfl, fun W2 h2 => by have g := f1; unfold o13; have hu := Try.underlying31; go_simp⟩) d0 ?_
  obtain ⟨b8, hb⟩ : ∃ b, b = st b7 16 (.pointer (some ⟨g1, 4, none⟩)) := ⟨_, rfl⟩
  rw [show (Act.put b7 o13.dst (.pointer (some ⟨g1, 4, none⟩))) = b8 by rw [hb]; rfl]
  have hs9 : Aside0 (b8.tmps.size = 20) := ⟨by rw [hb]; exact Array.size_setIfInBounds.trans hs8.out⟩
  have fa8 : Fa D a0 b8 := by rw [hb]; exact Fa.put (fa7) (by decide) _
  have p8 : at_ b8 16 (.pointer (some ⟨g1, 4, none⟩)) := by rw [hb]; exact st_eq (by rw [hs8.out]; decide)
  replace f1 : at_ b8 1 (pt g1) := by rw [hb]; exact st_ne (by decide) f1
  replace k4 : at_ b8 4 (.int .i64 p.T) := by rw [hb]; exact st_ne (by decide) k4
  replace k6 : at_ b8 6 (.int .i64 p.E) := by rw [hb]; exact st_ne (by decide) k6
  replace k9 : at_ b8 9 (.slice p.A2 p.l2.length p.c2) := by rw [hb]; exact st_ne (by decide) k9
  replace k13 : at_ b8 13 (.slice p.A3 p.l3.length p.c3) := by rw [hb]; exact st_ne (by decide) k13
  clear hb
  refine wpAnyH_take (i := 14) (oi := o14) (v := (.slice p.A4 p.l4.length p.c4)) rfl (by kernel_rfl) (by kernel_rfl) (by kernel_rfl) (fun c a w h => X1.hp c a 17 _ w h) (Or.inl ⟨by rfl, fun W2 h2 => by have g := p8; have c0 : W2.cell? ⟨g1, 4, none⟩ = some (.slice p.A4 p.l4.length p.c4) := (blk_cell h2.2 4).trans rfl; unfold o14; go_simp⟩) d0 ?_
  obtain ⟨b9, hb⟩ : ∃ b, b = st b8 17 (.slice p.A4 p.l4.length p.c4) := ⟨_, rfl⟩
  rw [show (Act.put b8 o14.dst (.slice p.A4 p.l4.length p.c4)) = b9 by rw [hb]; rfl]
  have hs10 : Aside0 (b9.tmps.size = 20) := ⟨by rw [hb]; exact Array.size_setIfInBounds.trans hs9.out⟩
  have fa9 : Fa D a0 b9 := by rw [hb]; exact Fa.put (fa8) (by decide) _
  have p9 : at_ b9 17 (.slice p.A4 p.l4.length p.c4) := by rw [hb]; exact st_eq (by rw [hs9.out]; decide)
  replace f1 : at_ b9 1 (pt g1) := by rw [hb]; exact st_ne (by decide) f1
  replace k4 : at_ b9 4 (.int .i64 p.T) := by rw [hb]; exact st_ne (by decide) k4
  replace k6 : at_ b9 6 (.int .i64 p.E) := by rw [hb]; exact st_ne (by decide) k6
  replace k9 : at_ b9 9 (.slice p.A2 p.l2.length p.c2) := by rw [hb]; exact st_ne (by decide) k9
  replace k13 : at_ b9 13 (.slice p.A3 p.l3.length p.c3) := by rw [hb]; exact st_ne (by decide) k13
  have k17 := p9
  clear hb
  exact node0000 X1 ⟨fa9, s0, k4, k6, k9, k13, k17, ⟨(fun _ e => nomatch e), (fun _ e => nomatch e), (fun _ e => nomatch e), (fun _ _ _ e => nomatch e)⟩, (fun _ e => nomatch e), (fun _ e => nomatch e), (fun _ e => nomatch e)⟩
end
end Ownl
set_option maxHeartbeats 8000000 in
theorem spec_l04Own.calls (a0_0 : Int) (a0_1 : Int) (A0_2 : Option Addr) (c0_2 : Nat) (l0_2 : List Int) (A0_3 : Option Addr) (c0_3 : Nat) (l0_3 : List (S74)) (A0_4 : Option Addr) (c0_4 : Nat) (l0_4 : List Int) (r1 : Int) (r2 : Int) (r3 : List Int) (r4 : List (S74)) (r5 : List Int) (w : World) (hr0_2 : Kd.C (Kd.int .i64) w A0_2 l0_2.length l0_2) (hc0_2 : l0_2.length ≤ c0_2) (hr0_3 : Kd.C k74 w A0_3 l0_3.length l0_3) (hc0_3 : l0_3.length ≤ c0_3) (hr0_4 : Kd.C (Kd.int .i64) w A0_4 l0_4.length l0_4) (hc0_4 : l0_4.length ≤ c0_4) (h : spec_l04Own.f a0_0 a0_1 l0_2 l0_3 l0_4 = some (r1, r2, r3, r4, r5)) :
  Calls Try.prog 29 #[.agg #[.int .i64 a0_0, .int .i64 a0_1, .slice A0_2 l0_2.length c0_2, .slice A0_3 l0_3.length c0_3, .slice A0_4 l0_4.length c0_4]] w fun e w' => ∃ v2_ v3_ v4_ : Value, e = .returned (.agg #[.int .i64 r1, .int .i64 r2, v2_, v3_, v4_]) ∧ Kd.R (Kd.int .i64) 3 w' w.heap.size (fun k_ => some k_ ≠ (v4_ : Value).ownBlock) v2_ r3 ∧ Kd.R k74 74 w' w.heap.size (fun _ => True) v3_ r4 ∧ Kd.R (Kd.int .i64) 3 w' w.heap.size (fun k_ => some k_ ≠ (v2_ : Value).ownBlock) v4_ r5 ∧ Below w.heap.size w w' := by
  have hu31 := Try.underlying31
  unfold spec_l04Own.f at h
  simp only [Option.bind_some, List.length_nil, Nat.zero_add, List.nil_append] at h
  split at h
  next n2 =>
    split at h
    next n3 =>
      split at h
      next n4 =>
        obtain ⟨rfl, rfl, rfl, rfl, rfl⟩ : a0_0 = r1 ∧ a0_1 = r2 ∧ l0_2 = r3 ∧ l0_3 = r4 ∧ l0_4 = r5 := by simpa using h
        clear h
        have b1 := blk_alloc (blk_new w (.cells #[.int .i64 a0_0, .int .i64 a0_1, .slice A0_2 l0_2.length c0_2, .slice A0_3 l0_3.length c0_3, .slice A0_4 l0_4.length c0_4] 31)) zS
        have b2 := blk_new (w.alloc (.cells #[.int .i64 a0_0, .int .i64 a0_1, .slice A0_2 l0_2.length c0_2, .slice A0_3 l0_3.length c0_3, .slice A0_4 l0_4.length c0_4] 31)) zS
        have d2 := below_alloc (below_alloc (Below.refl w.heap.size w) (.cells #[.int .i64 a0_0, .int .i64 a0_1, .slice A0_2 l0_2.length c0_2, .slice A0_3 l0_3.length c0_3, .slice A0_4 l0_4.length c0_4] 31)) zS
        rw [World.size_alloc] at b2
        have S0 := Aside0.mk (Ownl.Sx.mk d2 b1 b2)
        have HR := Aside0.mk (And.intro hr0_2 (And.intro hr0_3 hr0_4))
        have HN := Aside0.mk (And.intro n2 (And.intro n3 n4))
        clear b1 b2 d2 hr0_2 hr0_3 hr0_4 n2 n3 n4
        go_enter Try.func29, Try.ntmps29
        go_upto_region 1 with (fail)
        refine Ownl.whole (p := ⟨a0_0, a0_1, A0_2, c0_2, l0_2, A0_3, c0_3, l0_3, A0_4, c0_4, l0_4⟩) (w := w) (g1 := w.heap.size) (g2 := w.heap.size + 1) ⟨by rfl, by rfl, by omega, by rfl, S0.out, Nat.le_succ _, HR.out.1, HR.out.2.1, HR.out.2.2, HN.out.1, HN.out.2.1, HN.out.2.2, fun _ _ _ _ _ h => h, ?_⟩ rfl
        intro t u v z W hd h2 d b r
        have h2 : t.tmps.getD 2 undef = .pointer (some ⟨w.heap.size + 1, 0, none⟩) := by simpa using h2
        go_wp2
        refine bodyPost_ret (results_cell_row rfl _ _ _ 31 #[.int .i64 a0_0, .int .i64 a0_1, u, v, z] (0, 0) _ h2 b Try.underlying31 rfl (by kernel_rfl)) hd ?_
        exact ⟨u, v, z, rfl, Kd.R_reok rfl (r.x u rfl) (fun k hk e => r.xz u z k rfl rfl hk e.symm), r.y v rfl, Kd.R_reok rfl (r.z z rfl) (fun k hk e => r.xz u z k rfl rfl e.symm hk), d⟩
      next => cases h
    next => cases h
  next => cases h
end Go.Proofs.Ytcnkacbgcmnokaa.XA
