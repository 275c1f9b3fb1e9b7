/- A space in hand: its box and its three rows, and how they stand behind a step; plain lemmas. -/
import Derived.Test.YtcnkacbgcmnokaaXR0
import Derived.Lib.SliceRun
import Derived.Deep.RegionWith
namespace Go.Proofs.Ytcnkacbgcmnokaa.XR.Room
open Go Go.RowKit Go.Proofs.YtcnkacbgcmnokaaW.PrintWords Go.Proofs.YtcnkacbgcmnokaaW.PrintLast Go.Proofs.YtcnkacbgcmnokaaW.PrintMore
set_option linter.unusedVariables false
set_option linter.unusedSimpArgs false
theorem ne_own {α : Type} {d : Kd α} {e t : Nat} {W : World} {b g : Nat} {ok : Nat → Prop} {v : Value} {xs : List α} {cs : Array Value} (h : d.R e W b ok v xs) (hb : W.heap[g]? = some (.cells cs t (0, 0))) (ht : e ≠ t) : v.ownBlock ≠ some g := fun e' => Kd.R_ne h hb ht e'.symm
/-- Three rows: numbers, pages that are held, numbers; the two of numbers lie apart. -/
structure Trio (b : Nat) (W : World) (vn vh vp : Value) (now : List Int) (held : List S74) (pins : List Int) : Prop where
  n : (Kd.int .i64).R 3 W b (fun k => some k ≠ vp.ownBlock) vn now
  h : k74.R 74 W b (fun _ => True) vh held
  p : (Kd.int .i64).R 3 W b (fun _ => True) vp pins
/-- A row's block is the elder one, or younger than w. -/
def Move (w : World) (v v' : Value) : Prop := ∀ k, v'.ownBlock = some k → v.ownBlock = some k ∨ w.heap.size ≤ k
theorem Move.refl (w : World) (v : Value) : Move w v v := fun _ h => .inl h
theorem Move.trans {w W : World} {v v' v'' : Value} (hs : w.heap.size ≤ W.heap.size) (h : Move w v v') (h' : Move W v' v'') : Move w v v'' := fun k hk => by
  rcases h' k hk with h1 | h1
  · exact h k h1
  · exact .inr (Nat.le_trans hs h1)
theorem Move.hat {w : World} {v v' : Value} (h : v'.ownBlock = v.ownBlock ∨ ∃ k, v'.ownBlock = some k ∧ w.heap.size ≤ k) : Move w v v' := fun k hk => by
  rcases h with h | ⟨q, hq, hl⟩
  · exact .inl (h.symm.trans hk)
  · rw [hq] at hk
    exact .inr (Option.some.inj hk ▸ hl)
section
variable {b gb : Nat} {w W W' : World} {T E : Int} {vn vh vp vn' vh' vp' : Value} {now now' : List Int} {held held' : List S74} {pins pins' : List Int}
theorem Trio.step (r : Trio b W vn vh vp now held pins) (hm : ∀ k, k < W.heap.size → W'.heap[k]? = W.heap[k]?) : Trio b W' vn vh vp now held pins :=
  ⟨Kd.R_step r.n (fun k _ => hm k), Kd.R_step r.h (fun k _ => hm k), Kd.R_step r.p (fun k _ => hm k)⟩
theorem Trio.below (r : Trio b W vn vh vp now held pins) (h : Below W.heap.size W W') : Trio b W' vn vh vp now held pins := r.step (fun k hk => h.block k hk)
theorem Trio.lower (r : Trio b W vn vh vp now held pins) {b' : Nat} (h : b' ≤ b) : Trio b' W vn vh vp now held pins := ⟨Kd.R_lower r.n h, Kd.R_lower r.h h, Kd.R_lower r.p h⟩
theorem Trio.set (r : Trio b W vn vh vp now held pins) {g t : Nat} {cs : Array Value} (hb : W.heap[g]? = some (.cells cs t (0, 0))) (h1 : 3 ≠ t) (h2 : 74 ≠ t) (j : Nat) (u : Value) : Trio b (W.setCell ⟨g, j, none⟩ u) vn vh vp now held pins :=
  ⟨Kd.R_set r.n hb (by intro q hq; rw [List.mem_singleton.1 hq]; exact h1) j u, Kd.R_set r.h hb (by intro q hq; rw [List.mem_singleton.1 hq]; exact h2) j u, Kd.R_set r.p hb (by intro q hq; rw [List.mem_singleton.1 hq]; exact h1) j u⟩
/-- The box and its rows. -/
structure Own (b gb : Nat) (W : World) (T E : Int) (vn vh vp : Value) (now : List Int) (held : List S74) (pins : List Int) : Prop where
  box : W.heap[gb]? = some (.cells #[.int .i64 T, .int .i64 E, vn, vh, vp] 31 (0, 0))
  hg : b ≤ gb
  r : Trio b W vn vh vp now held pins
theorem Own.below (o : Own b gb W T E vn vh vp now held pins) (h : Below W.heap.size W W') : Own b gb W' T E vn vh vp now held pins := ⟨blk_below o.box h, o.hg, o.r.below h⟩
/-- What has come of a space since w. -/
structure St (w : World) (b gb : Nat) (vn0 vh0 vp0 : Value) (W : World) (T E : Int) (vn vh vp : Value) (now : List Int) (held : List S74) (pins : List Int) : Prop where
  o : Own b gb W T E vn vh vp now held pins
  d : Below b w W
  k : Kept w W (fun k => k = gb ∨ some k = vh0.ownBlock ∨ some k = vp0.ownBlock)
  mn : Move w vn0 vn
  mh : Move w vh0 vh
  mp : Move w vp0 vp
theorem St.start (o : Own b gb w T E vn vh vp now held pins) : St w b gb vn vh vp w T E vn vh vp now held pins := ⟨o, Below.refl _ _, Kept.refl _ _, Move.refl _ _, Move.refl _ _, Move.refl _ _⟩
variable {vn0 vh0 vp0 : Value} {T' E' : Int}
theorem St.go (s : St w b gb vn0 vh0 vp0 W T E vn vh vp now held pins) (o : Own b gb W' T' E' vn' vh' vp' now' held' pins') (d : Below b W W') (k : Kept W W' (fun k => k = gb ∨ some k = vh.ownBlock ∨ some k = vp.ownBlock)) (mn : Move W vn vn') (mh : Move W vh vh') (mp : Move W vp vp') :
    St w b gb vn0 vh0 vp0 W' T' E' vn' vh' vp' now' held' pins' := by
  refine ⟨o, s.d.trans d, s.k.then_ k (fun q hq => ?_), s.mn.trans s.k.1 mn, s.mh.trans s.k.1 mh, s.mp.trans s.k.1 mp⟩
  rcases hq with hq | hq | hq
  · exact .inl (.inl hq)
  · rcases s.mh q hq.symm with h | h
    · exact .inl (.inr (.inl h.symm))
    · exact .inr h
  · rcases s.mp q hq.symm with h | h
    · exact .inl (.inr (.inr h.symm))
    · exact .inr h
theorem St.below (s : St w b gb vn0 vh0 vp0 W T E vn vh vp now held pins) (hs : b ≤ W.heap.size) (h : Below W.heap.size W W') : St w b gb vn0 vh0 vp0 W' T E vn vh vp now held pins :=
  s.go (s.o.below h) (h.mono hs) (Kept.of_below h _) (Move.refl _ _) (Move.refl _ _) (Move.refl _ _)
theorem set_kept (W : World) (g j : Nat) (v : Value) (S : Nat → Prop) (h : S g) : Kept W (W.setCell ⟨g, j, none⟩ v) S :=
  ⟨by simp [World.setCell], fun i _ hn => Below.heap_setCell W ⟨g, j, none⟩ v i (fun e => hn (by rw [e]; exact h))⟩
theorem kept_put {W1 : World} {S : Nat → Prop} (k : Kept W W1 S) (g j : Nat) (v : Value) (h : S g) : Kept W (W1.setCell ⟨g, j, none⟩ v) S :=
  ⟨Nat.le_trans k.1 (set_kept W1 g j v S h).1, fun i hi hn => ((set_kept W1 g j v S h).2 i (Nat.lt_of_lt_of_le hi k.1) hn).trans (k.2 i hi hn)⟩
/-- The held row is told anew, in its own block or a younger one, and the box is told. -/
theorem St.toHeld {W1 : World} (s : St w b gb vn0 vh0 vp0 W T E vn vh vp now held pins) (hh : k74.R 74 W1 b (fun _ => True) vh' held') (hB : Below b W W1) (hk : Kept W W1 (fun k => some k = vh.ownBlock)) (hm : Move W vh vh') :
    St w b gb vn0 vh0 vp0 (W1.setCell ⟨gb, 3, none⟩ vh') T E vn vh' vp now held' pins := by
  have hbx : W1.heap[gb]? = some (.cells #[.int .i64 T, .int .i64 E, vn, vh, vp] 31 (0, 0)) := (hk.2 gb (blk_lt s.o.box) (Kd.R_ne s.o.r.h s.o.box (by decide))).trans s.o.box
  have far : ∀ {v : Value} {l : List Int} {ok : Nat → Prop}, (Kd.int .i64).R 3 W b ok v l → (Kd.int .i64).R 3 W1 b ok v l := fun {v l ok} h => by
    refine Kd.R_mono (Kd.R_step (Kd.R_tight rfl h) (fun k hk' hl => hk.2 k hl (fun e => ?_))) (fun k hk' => h.1 k hk'.symm)
    obtain ⟨cells, hc⟩ := Kd.R_typed h k hk'.symm
    exact Kd.R_ne s.o.r.h hc (by decide) e
  have r1 : Trio b W1 vn vh' vp now held' pins := ⟨far s.o.r.n, hh, far s.o.r.p⟩
  exact s.go ⟨blk_put hbx 3 vh' rfl, s.o.hg, r1.set hbx (by decide) (by decide) 3 vh'⟩ (hB.setCell (p := ⟨gb, 3, none⟩) s.o.hg _) (kept_put (hk.mono (fun k h => .inr (.inl h))) gb 3 vh' (.inl rfl)) (Move.refl _ _) hm (Move.refl _ _)
/-- The row of pins is told anew. -/
theorem St.toPins {W1 : World} (s : St w b gb vn0 vh0 vp0 W T E vn vh vp now held pins) (hp : (Kd.int .i64).R 3 W1 b (fun _ => True) vp' pins') (hB : Below b W W1) (hk : Kept W W1 (fun k => some k = vp.ownBlock)) (hm : Move W vp vp') :
    St w b gb vn0 vh0 vp0 (W1.setCell ⟨gb, 4, none⟩ vp') T E vn vh vp' now held pins' := by
  have hbx : W1.heap[gb]? = some (.cells #[.int .i64 T, .int .i64 E, vn, vh, vp] 31 (0, 0)) := (hk.2 gb (blk_lt s.o.box) (Kd.R_ne s.o.r.p s.o.box (by decide))).trans s.o.box
  have h1 : k74.R 74 W1 b (fun _ => True) vh held := by
    refine Kd.R_mono (Kd.R_step (Kd.R_tight rfl s.o.r.h) (fun k hk' hl => hk.2 k hl (fun e => ?_))) (fun k _ => trivial)
    obtain ⟨cells, hc⟩ := Kd.R_typed s.o.r.h k hk'.symm
    exact Kd.R_ne s.o.r.p hc (by decide) e
  have h2 : (Kd.int .i64).R 3 W1 b (fun k => some k ≠ vp'.ownBlock) vn now := by
    refine Kd.R_mono (Kd.R_step (Kd.R_tight rfl s.o.r.n) (fun k hk' hl => hk.2 k hl (fun e => s.o.r.n.1 k hk'.symm e))) (fun k hk' e => ?_)
    rcases hm k e.symm with h | h
    · exact s.o.r.n.1 k hk'.symm h.symm
    · exact Nat.lt_irrefl _ (Nat.lt_of_lt_of_le (Kd.R_lt s.o.r.n k hk'.symm) h)
  have r1 : Trio b W1 vn vh vp' now held pins' := ⟨h2, h1, hp⟩
  exact s.go ⟨blk_put hbx 4 vp' rfl, s.o.hg, r1.set hbx (by decide) (by decide) 4 vp'⟩ (hB.setCell (p := ⟨gb, 4, none⟩) s.o.hg _) (kept_put (hk.mono (fun k h => .inr (.inr h))) gb 4 vp' (.inl rfl)) (Move.refl _ _) (Move.refl _ _) hm
/-- A row of now, made anew. -/
theorem St.toNow {W1 : World} (s : St w b gb vn0 vh0 vp0 W T E vn vh vp now held pins) (hs : b ≤ W.heap.size) (hn : (Kd.int .i64).R 3 W1 W.heap.size (fun _ => True) vn' now') (hB : Below W.heap.size W W1) :
    St w b gb vn0 vh0 vp0 (W1.setCell ⟨gb, 2, none⟩ vn') T E vn' vh vp now' held pins := by
  have o1 := s.o.below hB
  have h2 : (Kd.int .i64).R 3 W1 b (fun k => some k ≠ vp.ownBlock) vn' now' := Kd.R_lower (Kd.R_mono (Kd.R_tight rfl hn) (fun k hk' e => Nat.lt_irrefl _ (Nat.lt_of_lt_of_le (Kd.R_lt s.o.r.p k e.symm) (Kd.R_base hn k hk'.symm)))) hs
  have r1 : Trio b W1 vn' vh vp now' held pins := ⟨h2, o1.r.h, o1.r.p⟩
  exact s.go ⟨blk_put o1.box 2 vn' rfl, s.o.hg, r1.set o1.box (by decide) (by decide) 2 vn'⟩ ((hB.mono hs).setCell (p := ⟨gb, 2, none⟩) s.o.hg _) (kept_put (Kept.of_below hB _) gb 2 vn' (.inl rfl)) (fun k hk => .inr (Kd.R_base hn k hk)) (Move.refl _ _) (Move.refl _ _)
theorem St.epoch (s : St w b gb vn0 vh0 vp0 W T E vn vh vp now held pins) (E' : Int) : St w b gb vn0 vh0 vp0 (W.setCell ⟨gb, 1, none⟩ (.int .i64 E')) T E' vn vh vp now held pins :=
  s.go ⟨blk_put s.o.box 1 _ rfl, s.o.hg, s.o.r.set s.o.box (by decide) (by decide) 1 _⟩ ((Below.refl _ _).setCell (p := ⟨gb, 1, none⟩) s.o.hg _) (set_kept W gb 1 _ _ (.inl rfl)) (Move.refl _ _) (Move.refl _ _) (Move.refl _ _)
/-- What an append leaves, as a held row. -/
theorem grown_kept {v : Value} (hg : W.grownBy W' v.ownBlock) : Kept W W' (fun k => some k = v.ownBlock) := ⟨hg.size, fun i hi hn => hg.block i hi (fun e => hn e)⟩
end
theorem grown_kept' {W W' : World} {v : Value} (hg : W.drew.grownBy W' v.ownBlock) : Kept W W' (fun k => some k = v.ownBlock) := ⟨hg.size, fun i hi hn => hg.block i hi (fun e => hn e)⟩
theorem move_cut (w : World) (A : Option Addr) (n m c : Nat) : Move w (.slice A n c) (.slice A m c) := fun k hk => .inl (by cases A with
  | none => exact hk
  | some a => exact hk)
theorem undrewK {W W' : World} {S : Nat → Prop} (h : Kept W.drew W' S) : Kept W W' S := h
theorem apart_ {W W1 : World} {b b2 : Nat} {ok ok2 : Nat → Prop} {v vh : Value} {l : List Int} {held : List S74} (h : (Kd.int .i64).R 3 W b ok v l) (hh : k74.R 74 W b2 ok2 vh held) (hk : Kept W W1 (fun k => some k = vh.ownBlock)) : (Kd.int .i64).R 3 W1 b ok v l := by
  refine Kd.R_mono (Kd.R_step (Kd.R_tight rfl h) (fun k hk' hl => hk.2 k hl (fun e => ?_))) (fun k hk' => h.1 k hk'.symm)
  obtain ⟨cells, hc⟩ := Kd.R_typed h k hk'.symm
  exact Kd.R_ne hh hc (by decide) e
theorem St.inPlace {b gb : Nat} {w W W1 : World} {vn0 vh0 vp0 vn vh vp : Value} {T E : Int} {now : List Int} {held held' : List S74} {pins : List Int} (s : St w b gb vn0 vh0 vp0 W T E vn vh vp now held pins) (hh : k74.R 74 W1 b (fun _ => True) vh held') (hB : Below b W W1) (hk : Kept W W1 (fun k => some k = vh.ownBlock)) :
    St w b gb vn0 vh0 vp0 W1 T E vn vh vp now held' pins :=
  s.go ⟨(hk.2 gb (blk_lt s.o.box) (Kd.R_ne s.o.r.h s.o.box (by decide))).trans s.o.box, s.o.hg, ⟨apart_ s.o.r.n s.o.r.h hk, hh, apart_ s.o.r.p s.o.r.h hk⟩⟩ hB (hk.mono (fun k h => .inr (.inl h))) (Move.refl _ _) (Move.refl _ _) (Move.refl _ _)
theorem results_cct {P : Program} {fn : Func} {p p' u : Tmp} {ty ty' : TypeId} (h : fn.results = #[.cell p ty, .cell p' ty', .tmp u]) (tmps : Array Value) (w : World) (g g' : Nat) (t t' : TypeId) (cs cs' : Array Value) (fr fr' : Nat × Nat) (d d' : TypeDesc)
    (hp : tmps.getD p undef = .pointer (some ⟨g, 0, none⟩)) (hg : w.heap[g]? = some (.cells cs t fr))
    (hu : P.underlying ty = some d) (hd : (match d with | .struct _ | .array _ _ => true | _ => false) = true) (hi : (P.info? ty).map (·.size) = some cs.size)
    (hp' : tmps.getD p' undef = .pointer (some ⟨g', 0, none⟩)) (hg' : w.heap[g']? = some (.cells cs' t' fr'))
    (hu' : P.underlying ty' = some d') (hd' : (match d' with | .struct _ | .array _ _ => true | _ => false) = true) (hi' : (P.info? ty').map (·.size) = some cs'.size) :
    (results fn tmps).run P w = .ok (.tuple #[.agg cs, .agg cs', tmps.getD u undef]) w := by
  have h1 : tmps[p]?.getD undef = .pointer (some ⟨g, 0, none⟩) := by simpa using hp
  have h2 : tmps[p']?.getD undef = .pointer (some ⟨g', 0, none⟩) := by simpa using hp'
  simp [results, h, h1, h2, asAddr, run_loadVar_row w g t ty cs fr d hg hu hd hi, run_loadVar_row w g' t' ty' cs' fr' d' hg' hu' hd' hi']
/-- The boxes. -/
structure Cb (w : World) (cs : Array Value) (gs g4 g5 : Nat) (W : World) : Prop where
  s : W.heap[gs]? = some (.cells cs 31 (0, 0))
  r4 : W.heap[g4]? = some (.cells #[.int .i64 0, .int .i64 0, .slice none 0 0, .slice none 0 0, .slice none 0 0] 31 (0, 0))
  r5 : W.heap[g5]? = some (.cells #[.int .i64 0, .slice none 0 0] 33 (0, 0))
  d : Below w.heap.size w W
  l4 : w.heap.size ≤ g4
  l5 : w.heap.size ≤ g5
  n45 : g4 ≠ g5
section
variable {w W W' : World} {cs : Array Value} {gs g4 g5 gb : Nat}
theorem Cb.below (x : Cb w cs gs g4 g5 W) (h : Below W.heap.size W W') : Cb w cs gs g4 g5 W' := ⟨blk_below x.s h, blk_below x.r4 h, blk_below x.r5 h, x.d.trans (h.mono x.d.size), x.l4, x.l5, x.n45⟩
theorem Cb.held {ok : Nat → Prop} {v : Value} {xs : List S74} (x : Cb w cs gs g4 g5 W) (hr : k74.R 74 W w.heap.size ok v xs) (hB : Below w.heap.size W W') (hk : Kept W W' (fun k => some k = v.ownBlock)) : Cb w cs gs g4 g5 W' :=
  ⟨(hk.2 gs (blk_lt x.s) (Kd.R_ne hr x.s (by decide))).trans x.s, (hk.2 g4 (blk_lt x.r4) (Kd.R_ne hr x.r4 (by decide))).trans x.r4, (hk.2 g5 (blk_lt x.r5) (Kd.R_ne hr x.r5 (by decide))).trans x.r5, x.d.trans hB, x.l4, x.l5, x.n45⟩
theorem Cb.set (x : Cb w cs gs g4 g5 W) (h : gs ≠ gb ∧ g4 ≠ gb ∧ g5 ≠ gb ∧ w.heap.size ≤ gb) (j : Nat) (u : Value) : Cb w cs gs g4 g5 (W.setCell ⟨gb, j, none⟩ u) :=
  ⟨blk_far x.s h.1 _, blk_far x.r4 h.2.1 _, blk_far x.r5 h.2.2.1 _, x.d.setCell (p := ⟨gb, j, none⟩) h.2.2.2 _, x.l4, x.l5, x.n45⟩
theorem Cb.start (w : World) (cs : Array Value) : Cb w cs w.heap.size (w.heap.size + 1) (w.heap.size + 1 + 1) (((w.alloc (.cells cs 31)).alloc (.cells #[.int .i64 0, .int .i64 0, .slice none 0 0, .slice none 0 0, .slice none 0 0] 31)).alloc (.cells #[.int .i64 0, .slice none 0 0] 33)) := by
  have h0 := blk_new w (.cells cs 31)
  have h1 := blk_new (w.alloc (.cells cs 31)) (.cells #[.int .i64 0, .int .i64 0, .slice none 0 0, .slice none 0 0, .slice none 0 0] 31)
  have h2 := blk_new ((w.alloc (.cells cs 31)).alloc (.cells #[.int .i64 0, .int .i64 0, .slice none 0 0, .slice none 0 0, .slice none 0 0] 31)) (.cells #[.int .i64 0, .slice none 0 0] 33)
  rw [World.size_alloc] at h1
  rw [World.size_alloc, World.size_alloc] at h2
  exact ⟨blk_alloc (blk_alloc h0 _) _, blk_alloc h1 _, h2, below_alloc (below_alloc (below_alloc (Below.refl _ _) _) _) _, by omega, by omega, by omega⟩
end
/-- A call's own boxes: the space and the act that were handed in, the results. -/
structure Fr (w : World) (cs : Array Value) (kind n : Int) (gs ga g4 g5 : Nat) (W : World) : Prop where
  s : W.heap[gs]? = some (.cells cs 31 (0, 0))
  a : W.heap[ga]? = some (.cells #[.int .i64 kind, .int .i64 n] 37 (0, 0))
  r4 : W.heap[g4]? = some (.cells #[.int .i64 0, .int .i64 0, .slice none 0 0, .slice none 0 0, .slice none 0 0] 31 (0, 0))
  r5 : W.heap[g5]? = some (.cells #[.int .i64 0, .slice none 0 0] 33 (0, 0))
  d : Below w.heap.size w W
  l4 : w.heap.size ≤ g4
  l5 : w.heap.size ≤ g5
  n45 : g4 ≠ g5
section
variable {w W W' : World} {cs : Array Value} {kind n : Int} {gs ga g4 g5 : Nat}
theorem Fr.step (x : Fr w cs kind n gs ga g4 g5 W) (hm : ∀ k, k = gs ∨ k = ga ∨ k = g4 ∨ k = g5 → W'.heap[k]? = W.heap[k]?) (d : Below w.heap.size W W') : Fr w cs kind n gs ga g4 g5 W' :=
  ⟨(hm gs (.inl rfl)).trans x.s, (hm ga (.inr (.inl rfl))).trans x.a, (hm g4 (.inr (.inr (.inl rfl)))).trans x.r4, (hm g5 (.inr (.inr (.inr rfl)))).trans x.r5, x.d.trans d, x.l4, x.l5, x.n45⟩
theorem Fr.lt (x : Fr w cs kind n gs ga g4 g5 W) {k : Nat} (h : k = gs ∨ k = ga ∨ k = g4 ∨ k = g5) : k < W.heap.size := by
  rcases h with rfl | rfl | rfl | rfl
  · exact blk_lt x.s
  · exact blk_lt x.a
  · exact blk_lt x.r4
  · exact blk_lt x.r5
theorem Fr.below (x : Fr w cs kind n gs ga g4 g5 W) (h : Below W.heap.size W W') : Fr w cs kind n gs ga g4 g5 W' :=
  x.step (fun k hk => h.block k (x.lt hk)) (h.mono x.d.size)
theorem Fr.kept {b gb : Nat} {T E : Int} {vn vh vp : Value} {now : List Int} {held : List S74} {pins : List Int} (x : Fr w cs kind n gs ga g4 g5 W) (o : Own b gb W T E vn vh vp now held pins) (hg : gs < gb ∧ ga < gb ∧ g4 < gb ∧ g5 < gb) (hk : Kept W W' (fun k => k = gb ∨ some k = vh.ownBlock ∨ some k = vp.ownBlock)) (d : Below w.heap.size W W') : Fr w cs kind n gs ga g4 g5 W' := by
  have key : ∀ (k t : Nat) (c : Array Value), W.heap[k]? = some (.cells c t (0, 0)) → k < gb → 74 ≠ t → 3 ≠ t → W'.heap[k]? = W.heap[k]? := fun k t c hb hl h1 h2 => hk.2 k (blk_lt hb) (fun h => by
    rcases h with h | h | h
    · exact Nat.lt_irrefl _ (h ▸ hl)
    · exact Kd.R_ne o.r.h hb h1 h
    · exact Kd.R_ne o.r.p hb h2 h)
  exact ⟨(key _ _ _ x.s hg.1 (by decide) (by decide)).trans x.s, (key _ _ _ x.a hg.2.1 (by decide) (by decide)).trans x.a, (key _ _ _ x.r4 hg.2.2.1 (by decide) (by decide)).trans x.r4, (key _ _ _ x.r5 hg.2.2.2 (by decide) (by decide)).trans x.r5, x.d.trans d, x.l4, x.l5, x.n45⟩
theorem Fr.start (w : World) (cs : Array Value) (kind n : Int) : Fr w cs kind n w.heap.size (w.heap.size + 1) (w.heap.size + 1 + 1) (w.heap.size + 1 + 1 + 1) ((((w.alloc (.cells cs 31)).alloc (.cells #[.int .i64 kind, .int .i64 n] 37)).alloc (.cells #[.int .i64 0, .int .i64 0, .slice none 0 0, .slice none 0 0, .slice none 0 0] 31)).alloc (.cells #[.int .i64 0, .slice none 0 0] 33)) := by
  have h0 := blk_new w (.cells cs 31)
  have h1 := blk_new (w.alloc (.cells cs 31)) (.cells #[.int .i64 kind, .int .i64 n] 37)
  have h2 := blk_new ((w.alloc (.cells cs 31)).alloc (.cells #[.int .i64 kind, .int .i64 n] 37)) (.cells #[.int .i64 0, .int .i64 0, .slice none 0 0, .slice none 0 0, .slice none 0 0] 31)
  have h3 := blk_new (((w.alloc (.cells cs 31)).alloc (.cells #[.int .i64 kind, .int .i64 n] 37)).alloc (.cells #[.int .i64 0, .int .i64 0, .slice none 0 0, .slice none 0 0, .slice none 0 0] 31)) (.cells #[.int .i64 0, .slice none 0 0] 33)
  rw [World.size_alloc] at h1
  rw [World.size_alloc, World.size_alloc] at h2
  rw [World.size_alloc, World.size_alloc, World.size_alloc] at h3
  exact ⟨blk_alloc (blk_alloc (blk_alloc h0 _) _) _, blk_alloc (blk_alloc h1 _) _, blk_alloc h2 _, h3, below_alloc (below_alloc (below_alloc (below_alloc (Below.refl _ _) _) _) _) _, by omega, by omega, by omega⟩
/-- The results' boxes, told. -/
theorem put5 {h : Nat} {a b : Int} {u v x : Value} (r : W.heap[h]? = some (.cells #[.int .i64 0, .int .i64 0, .slice none 0 0, .slice none 0 0, .slice none 0 0] 31 (0, 0))) :
    (((((W.setCell ⟨h, 0, none⟩ (.int .i64 a)).setCell ⟨h, 1, none⟩ (.int .i64 b)).setCell ⟨h, 2, none⟩ u).setCell ⟨h, 3, none⟩ v).setCell ⟨h, 4, none⟩ x).heap[h]? = some (.cells #[.int .i64 a, .int .i64 b, u, v, x] 31 (0, 0)) :=
  blk_put (blk_put (blk_put (blk_put (blk_put r 0 _ rfl) 1 _ rfl) 2 _ rfl) 3 _ rfl) 4 _ rfl
theorem Trio.five {b0 h : Nat} {a b : Int} {u v x vn vh vp : Value} {now : List Int} {held : List S74} {pins : List Int} (t : Trio b0 W vn vh vp now held pins) (r : W.heap[h]? = some (.cells #[.int .i64 0, .int .i64 0, .slice none 0 0, .slice none 0 0, .slice none 0 0] 31 (0, 0))) :
    Trio b0 (((((W.setCell ⟨h, 0, none⟩ (.int .i64 a)).setCell ⟨h, 1, none⟩ (.int .i64 b)).setCell ⟨h, 2, none⟩ u).setCell ⟨h, 3, none⟩ v).setCell ⟨h, 4, none⟩ x) vn vh vp now held pins :=
  (((((t.set r (by decide) (by decide) 0 _).set (blk_put r 0 _ rfl) (by decide) (by decide) 1 _).set (blk_put (blk_put r 0 _ rfl) 1 _ rfl) (by decide) (by decide) 2 _).set (blk_put (blk_put (blk_put r 0 _ rfl) 1 _ rfl) 2 _ rfl) (by decide) (by decide) 3 _).set (blk_put (blk_put (blk_put (blk_put r 0 _ rfl) 1 _ rfl) 2 _ rfl) 3 _ rfl) (by decide) (by decide) 4 _)
theorem R5 {b0 h : Nat} {ok : Nat → Prop} {a b : Int} {u v x w0 : Value} {l : List Int} (t : (Kd.int .i64).R 3 W b0 ok w0 l) (r : W.heap[h]? = some (.cells #[.int .i64 0, .int .i64 0, .slice none 0 0, .slice none 0 0, .slice none 0 0] 31 (0, 0))) :
    (Kd.int .i64).R 3 (((((W.setCell ⟨h, 0, none⟩ (.int .i64 a)).setCell ⟨h, 1, none⟩ (.int .i64 b)).setCell ⟨h, 2, none⟩ u).setCell ⟨h, 3, none⟩ v).setCell ⟨h, 4, none⟩ x) b0 ok w0 l :=
  Kd.R_set (Kd.R_set (Kd.R_set (Kd.R_set (Kd.R_set t r (by decide) 0 _) (blk_put r 0 _ rfl) (by decide) 1 _) (blk_put (blk_put r 0 _ rfl) 1 _ rfl) (by decide) 2 _) (blk_put (blk_put (blk_put r 0 _ rfl) 1 _ rfl) 2 _ rfl) (by decide) 3 _) (blk_put (blk_put (blk_put (blk_put r 0 _ rfl) 1 _ rfl) 2 _ rfl) 3 _ rfl) (by decide) 4 _
theorem five_below {b0 h : Nat} {w : World} {a b : Int} {u v x : Value} (d : Below b0 w W) (l : b0 ≤ h) : Below b0 w (((((W.setCell ⟨h, 0, none⟩ (.int .i64 a)).setCell ⟨h, 1, none⟩ (.int .i64 b)).setCell ⟨h, 2, none⟩ u).setCell ⟨h, 3, none⟩ v).setCell ⟨h, 4, none⟩ x) :=
  ((((d.setCell (p := ⟨h, 0, none⟩) l _).setCell (p := ⟨h, 1, none⟩) l _).setCell (p := ⟨h, 2, none⟩) l _).setCell (p := ⟨h, 3, none⟩) l _).setCell (p := ⟨h, 4, none⟩) l _
theorem put2 {h : Nat} {a : Int} {u : Value} (r : W.heap[h]? = some (.cells #[.int .i64 0, .slice none 0 0] 33 (0, 0))) :
    ((W.setCell ⟨h, 0, none⟩ (.int .i64 a)).setCell ⟨h, 1, none⟩ u).heap[h]? = some (.cells #[.int .i64 a, u] 33 (0, 0)) := blk_put (blk_put r 0 _ rfl) 1 _ rfl
theorem Fr.cb (x : Fr w cs kind n gs ga g4 g5 W) : Cb w cs gs g4 g5 W := ⟨x.s, x.r4, x.r5, x.d, x.l4, x.l5, x.n45⟩
end
section
variable {w W : World} {cs : Array Value} {gs g4 g5 : Nat}
theorem Cb.told (x : Cb w cs gs g4 g5 W) (a b c : Int) (u v y z : Value) :
    ((((((((W.setCell ⟨g4, 0, none⟩ (.int .i64 a)).setCell ⟨g4, 1, none⟩ (.int .i64 b)).setCell ⟨g4, 2, none⟩ u).setCell ⟨g4, 3, none⟩ v).setCell ⟨g4, 4, none⟩ y).setCell ⟨g5, 0, none⟩ (.int .i64 c)).setCell ⟨g5, 1, none⟩ z)).heap[g4]? = some (.cells #[.int .i64 a, .int .i64 b, u, v, y] 31 (0, 0)) ∧
    ((((((((W.setCell ⟨g4, 0, none⟩ (.int .i64 a)).setCell ⟨g4, 1, none⟩ (.int .i64 b)).setCell ⟨g4, 2, none⟩ u).setCell ⟨g4, 3, none⟩ v).setCell ⟨g4, 4, none⟩ y).setCell ⟨g5, 0, none⟩ (.int .i64 c)).setCell ⟨g5, 1, none⟩ z)).heap[g5]? = some (.cells #[.int .i64 c, z] 33 (0, 0)) ∧ Below w.heap.size w ((((((((W.setCell ⟨g4, 0, none⟩ (.int .i64 a)).setCell ⟨g4, 1, none⟩ (.int .i64 b)).setCell ⟨g4, 2, none⟩ u).setCell ⟨g4, 3, none⟩ v).setCell ⟨g4, 4, none⟩ y).setCell ⟨g5, 0, none⟩ (.int .i64 c)).setCell ⟨g5, 1, none⟩ z)) ∧
    (∀ {vn vh vp : Value} {now : List Int} {held : List S74} {pins : List Int}, Trio w.heap.size W vn vh vp now held pins → Trio w.heap.size ((((((((W.setCell ⟨g4, 0, none⟩ (.int .i64 a)).setCell ⟨g4, 1, none⟩ (.int .i64 b)).setCell ⟨g4, 2, none⟩ u).setCell ⟨g4, 3, none⟩ v).setCell ⟨g4, 4, none⟩ y).setCell ⟨g5, 0, none⟩ (.int .i64 c)).setCell ⟨g5, 1, none⟩ z)) vn vh vp now held pins) ∧
    (∀ {ok : Nat → Prop} {v0 : Value} {l : List Int}, (Kd.int .i64).R 3 W w.heap.size ok v0 l → (Kd.int .i64).R 3 ((((((((W.setCell ⟨g4, 0, none⟩ (.int .i64 a)).setCell ⟨g4, 1, none⟩ (.int .i64 b)).setCell ⟨g4, 2, none⟩ u).setCell ⟨g4, 3, none⟩ v).setCell ⟨g4, 4, none⟩ y).setCell ⟨g5, 0, none⟩ (.int .i64 c)).setCell ⟨g5, 1, none⟩ z)) w.heap.size ok v0 l) := by
  have h5 := blk_far (blk_far (blk_far (blk_far (blk_far x.r5 (p := ⟨g4, 0, none⟩) (fun e => x.n45 e.symm) (.int .i64 a)) (p := ⟨g4, 1, none⟩) (fun e => x.n45 e.symm) (.int .i64 b)) (p := ⟨g4, 2, none⟩) (fun e => x.n45 e.symm) u) (p := ⟨g4, 3, none⟩) (fun e => x.n45 e.symm) v) (p := ⟨g4, 4, none⟩) (fun e => x.n45 e.symm) y
  have h4 := put5 (a := a) (b := b) (u := u) (v := v) (x := y) x.r4
  refine ⟨blk_far (blk_far h4 (p := ⟨g5, 0, none⟩) x.n45 _) (p := ⟨g5, 1, none⟩) x.n45 _, put2 h5, ?_, fun t => ?_, fun t => ?_⟩
  · exact ((((((x.d.setCell (p := ⟨g4, 0, none⟩) x.l4 _).setCell (p := ⟨g4, 1, none⟩) x.l4 _).setCell (p := ⟨g4, 2, none⟩) x.l4 _).setCell (p := ⟨g4, 3, none⟩) x.l4 _).setCell (p := ⟨g4, 4, none⟩) x.l4 _).setCell (p := ⟨g5, 0, none⟩) x.l5 _).setCell (p := ⟨g5, 1, none⟩) x.l5 _
  · exact ((t.five x.r4).set h5 (by decide) (by decide) 0 _).set (blk_put h5 0 _ rfl) (by decide) (by decide) 1 _
  · exact Kd.R_set (Kd.R_set (R5 t x.r4) h5 (by decide) 0 _) (blk_put h5 0 _ rfl) (by decide) 1 _
end
/-- Rows of whatever base, behind the results told. -/
theorem Cb.seven {w W : World} {cs : Array Value} {gs g4 g5 : Nat} (x : Cb w cs gs g4 g5 W) {b0 : Nat} {vn vh vp : Value} {now : List Int} {held : List S74} {pins : List Int} (t : Trio b0 W vn vh vp now held pins) (a b c : Int) (u v y z : Value) : Trio b0 ((((((((W.setCell ⟨g4, 0, none⟩ (.int .i64 a)).setCell ⟨g4, 1, none⟩ (.int .i64 b)).setCell ⟨g4, 2, none⟩ u).setCell ⟨g4, 3, none⟩ v).setCell ⟨g4, 4, none⟩ y).setCell ⟨g5, 0, none⟩ (.int .i64 c)).setCell ⟨g5, 1, none⟩ z)) vn vh vp now held pins := by
  have h5 := blk_far (blk_far (blk_far (blk_far (blk_far x.r5 (p := ⟨g4, 0, none⟩) (fun e => x.n45 e.symm) (.int .i64 a)) (p := ⟨g4, 1, none⟩) (fun e => x.n45 e.symm) (.int .i64 b)) (p := ⟨g4, 2, none⟩) (fun e => x.n45 e.symm) u) (p := ⟨g4, 3, none⟩) (fun e => x.n45 e.symm) v) (p := ⟨g4, 4, none⟩) (fun e => x.n45 e.symm) y
  exact ((t.five x.r4).set h5 (by decide) (by decide) 0 _).set (blk_put h5 0 _ rfl) (by decide) (by decide) 1 _
theorem Trio.far {b H : Nat} {W W' : World} {vn vh vp : Value} {now : List Int} {held : List S74} {pins : List Int} (t : Trio b W vn vh vp now held pins) (hg : W.grownBy W' (some H)) (hH : H < b) : Trio b W' vn vh vp now held pins := by
  have far : ∀ {α : Type} {d : Kd α} {e : Nat} {ok : Nat → Prop} {v : Value} {l : List α}, d.E = [] → d.R e W b ok v l → d.R e W' b ok v l := fun {α d e ok v l} hE h => by
    refine Kd.R_mono (Kd.R_step (Kd.R_tight hE h) (fun k hk' hl => hg.block k hl (fun e => ?_))) (fun k hk' => h.1 k hk'.symm)
    have := Kd.R_base h k hk'.symm
    injection e with e
    omega
  exact ⟨far rfl t.n, far rfl t.h, far rfl t.p⟩
theorem empty {α : Type} (d : Kd α) (e : Nat) (W : World) (base g : Nat) (ok : Nat → Prop) (hb : W.heap[g]? = some (.cells #[] e (0, 0))) (hg : base ≤ g) (hok : ok g) : d.R e W base ok (.slice (some ⟨g, 0, none⟩) 0 0) [] := by
  refine ⟨fun k hk => ?_, [], ?_, Reps.none _ _⟩
  · have : g = k := by simpa [Value.ownBlock] using hk
    exact this ▸ hok
  · exact ⟨by simp, .inr ⟨g, 0, #[], rfl, hg, hb, Nat.le_refl _, by unfold maxLen; omega, by simp, by simp⟩⟩
theorem elem74 {W : World} {b n c : Nat} {ok : Nat → Prop} {A : Option Addr} {xs : List S74} (h : k74.R 74 W b ok (.slice A n c) xs) (i : Nat) (hi : i < n) : ∃ g, A = some ⟨g, 0, none⟩ ∧ W.cell? ⟨g, i * 2, none⟩ = some (.int .i64 (xs.getD i z74).f0) ∧ W.cell? ⟨g, i * 2 + 1, none⟩ = some (.int .i64 (xs.getD i z74).f1) := by
  have hn := (Kd.R_reads' h).1
  obtain ⟨g, cap, e, _⟩ := Kd.R_form h (by omega)
  injection e with e1 _ _
  subst e1
  obtain ⟨cs, hcl, hM, hcc, hfr⟩ := Kd.R_elem h z74 (i : Int) (by omega) (by omega)
  obtain rfl := k74_openM hM
  rw [Int.toNat_natCast] at hcc
  exact ⟨g, rfl, hcc 0 _ rfl, hcc 1 _ rfl⟩
theorem elemI {W : World} {b n c : Nat} {ok : Nat → Prop} {A : Option Addr} {xs : List Int} (h : (Kd.int .i64).R 3 W b ok (.slice A n c) xs) (i : Nat) (hi : i < n) : ∃ g, A = some ⟨g, 0, none⟩ ∧ W.cell? ⟨g, i, none⟩ = some (.int .i64 (xs.getD i 0)) := by
  have hn := (Kd.R_reads' h).1
  obtain ⟨g, cap, e, _⟩ := Kd.R_form h (by omega)
  injection e with e1 _ _
  subst e1
  obtain ⟨cs, hcl, hM, hcc, hfr⟩ := Kd.R_elem h 0 (i : Int) (by omega) (by omega)
  have hM' : cs = [.int .i64 (xs.getD (i : Int).toNat 0)] := hM
  subst hM'
  have h1 := hcc 0 _ rfl
  simp only [show (Kd.int .i64).sz = 1 from rfl, Int.toNat_natCast, Nat.mul_one, Nat.add_zero] at h1
  exact ⟨g, rfl, h1⟩
theorem cell_far2 {W : World} {g g2 i : Nat} {u v : Value} (h : W.cell? ⟨g, i, none⟩ = some u) (hn : g ≠ g2) (j : Nat) : (W.setCell ⟨g2, j, none⟩ v).cell? ⟨g, i, none⟩ = some u := by
  rw [World.cell?_setCell_other _ _ _ _ (fun e => by injection e with e1 _; exact hn e1.symm)]
  exact h
theorem wrapsub (n : Nat) (h : n ≤ 1048576) : wrap64 ((n : Int) - 1) = (n : Int) - 1 := by unfold wrap64; omega
theorem wrapadd (n : Nat) (h : n ≤ 1048576) : wrap64 ((n : Int) + 1) = (n : Int) + 1 := by unfold wrap64; omega
theorem undrew {b : Nat} {W W' : World} (h : Below b W.drew W') : Below b W W' := (below_drew (Below.refl _ _)).trans h
theorem wr1 (i n : Nat) (h0 : i < n) (h1 : n < 1099511627776) : wrap64 ((i : Int) + 1) = ((i + 1 : Nat) : Int) := by unfold wrap64; omega
end Go.Proofs.Ytcnkacbgcmnokaa.XR.Room
