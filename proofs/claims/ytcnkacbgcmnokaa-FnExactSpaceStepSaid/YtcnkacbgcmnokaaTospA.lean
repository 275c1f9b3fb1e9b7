/- The copy of a space that the law makes: a walk by hand. -/
import Derived.Test.YtcnkacbgcmnokaaXA1
import Derived.Test.YtcnkacbgcmnokaaRoomy
namespace Go.Proofs.Ytcnkacbgcmnokaa.XA
open Go Go.RowKit Go.Proofs.YtcnkacbgcmnokaaW.PrintWords Go.Proofs.YtcnkacbgcmnokaaW.PrintLast Go.Proofs.YtcnkacbgcmnokaaW.PrintMore Go.Proofs.Ytcnkacbgcmnokaa.XA.Fram Go.Proofs.Ytcnkacbgcmnokaa.XA.Ownl Go.Proofs.Ytcnkacbgcmnokaa.XA.Room
set_option linter.unusedVariables false
set_option linter.unusedSimpArgs false
theorem two_boxes (w : World) (o1 o2 : Obj) : ((w.alloc o1).alloc o2).heap[w.heap.size + 1]? = some o2 := by
  have h := blk_new (w.alloc o1) o2
  rwa [World.size_alloc] at h
theorem three_boxes (w : World) (o1 o2 o3 : Obj) : (((w.alloc o1).alloc o2).alloc o3).heap[w.heap.size + 1 + 1]? = some o3 := by
  have h := two_boxes (w.alloc o1) o2 o3
  rwa [World.size_alloc] at h
/-- A space in the making: the argument's box, the result's, its own; its rows so far. -/
structure Spm (w : World) (g1 g2 g3 : Nat) (cs l : Array Value) (X Y Z : Option Value) (xs : List Int) (ys : List S74) (zs : List Int) (W : World) : Prop where
  d : Below w.heap.size w W
  b1 : W.heap[g1]? = some (.cells cs 25 (0, 0))
  b2 : W.heap[g2]? = some zS
  b3 : W.heap[g3]? = some (.cells l 31 (0, 0))
  l2 : w.heap.size ≤ g2
  l3 : w.heap.size ≤ g3
  n1 : g1 ≠ g3
  n2 : g2 ≠ g3
  r : Rw w.heap.size X Y Z xs ys zs W
section
variable {w W W' : World} {g1 g2 g3 : Nat} {cs l l' : Array Value} {X Y Z : Option Value} {xs xs' zs zs' : List Int} {ys ys' : List S74} {v : Value}
theorem Spm.more (s : Spm w g1 g2 g3 cs l X Y Z xs ys zs W) (h : Below W.heap.size W W') {X' Y' Z' : Option Value} (r : Rw w.heap.size X' Y' Z' xs' ys' zs' W') : Spm w g1 g2 g3 cs l X' Y' Z' xs' ys' zs' W' := ⟨below_step s.d h, blk_below s.b1 h, blk_below s.b2 h, blk_below s.b3 h, s.l2, s.l3, s.n1, s.n2, r⟩
theorem Spm.put (s : Spm w g1 g2 g3 cs l X Y Z xs ys zs W) (j : Nat) (v : Value) (e : l.setIfInBounds j v = l') : Spm w g1 g2 g3 cs l' X Y Z xs ys zs (W.setCell ⟨g3, j, none⟩ v) :=
  ⟨below_set s.d s.l3, blk_far s.b1 s.n1 _, blk_far s.b2 s.n2 _, blk_put s.b3 j v e, s.l2, s.l3, s.n1, s.n2, s.r.set s.b3 (by decide) (by decide) j v⟩
end
set_option maxHeartbeats 4000000 in
set_option maxRecDepth 100000 in
theorem laws_toSpace.calls (k : Nat) (a0_0 : Int) (a0_1 : Int) (A0_2 : Option Addr) (c0_2 : Nat) (l0_2 : List Int) (A0_3 : Option Addr) (c0_3 : Nat) (l0_3 : List (S77)) (A0_4 : Option Addr) (c0_4 : Nat) (l0_4 : List Int) (r1 : Int) (r2 : Int) (r3 : List Int) (r4 : List (S74)) (r5 : List Int) (w : World) (hr0_2 : Kd.C (Kd.int .i64) w A0_2 l0_2.length l0_2) (hc0_2 : l0_2.length ≤ c0_2) (hr0_3 : Kd.C k77 w A0_3 l0_3.length l0_3) (hc0_3 : l0_3.length ≤ c0_3) (hr0_4 : Kd.C (Kd.int .i64) w A0_4 l0_4.length l0_4) (hc0_4 : l0_4.length ≤ c0_4) (h : laws_toSpace.f k a0_0 a0_1 l0_2 l0_3 l0_4 = some (r1, r2, r3, r4, r5)) :
    Calls Try.prog 7 #[.agg #[.int .i64 a0_0, .int .i64 a0_1, .slice A0_2 l0_2.length c0_2, .slice A0_3 l0_3.length c0_3, .slice A0_4 l0_4.length c0_4]] w fun e w' => ∃ v2_ v3_ v4_ : Value, e = .returned (.agg #[.int .i64 r1, .int .i64 r2, v2_, v3_, v4_]) ∧ Kd.R (Kd.int .i64) 3 w' w.heap.size (fun k_ => some k_ ≠ (v4_ : Value).ownBlock) v2_ r3 ∧ Kd.R k74 74 w' w.heap.size (fun _ => True) v3_ r4 ∧ Kd.R (Kd.int .i64) 3 w' w.heap.size (fun k_ => some k_ ≠ (v2_ : Value).ownBlock) v4_ r5 ∧ Below w.heap.size w w' := by
  have hu25 := Try.underlying25
  have hu31 := Try.underlying31
  unfold laws_toSpace.f at h
  obtain ⟨x2, h2, h⟩ := Option.bind_eq_some_iff.mp h
  obtain ⟨x3, h3, h⟩ := Option.bind_eq_some_iff.mp h
  obtain ⟨x4, h4, h⟩ := Option.bind_eq_some_iff.mp h
  obtain ⟨rfl, rfl, rfl, rfl, rfl⟩ : a0_0 = r1 ∧ a0_1 = r2 ∧ x2 = r3 ∧ x3 = r4 ∧ x4 = r5 := by simpa using h
  have P2 := Aside0.mk (fun W (d : Below w.heap.size w W) => laws_toIntS.calls k A0_2 c0_2 l0_2 x2 W (Kd.C_below hr0_2 d) hc0_2 h2)
  have P3 := Aside0.mk (fun W (d : Below w.heap.size w W) => laws_toHeldS.calls k A0_3 c0_3 l0_3 x3 W (Kd.C_below hr0_3 d) hc0_3 h3)
  have P4 := Aside0.mk (fun W (d : Below w.heap.size w W) => laws_toIntS.calls k A0_4 c0_4 l0_4 x4 W (Kd.C_below hr0_4 d) hc0_4 h4)
  clear h h2 h3 h4 hr0_2 hr0_3 hr0_4 hc0_2 hc0_3 hc0_4
  obtain ⟨g1, hg1⟩ : ∃ g1, g1 = w.heap.size := ⟨_, rfl⟩
  obtain ⟨g2, hg2⟩ : ∃ g2, g2 = w.heap.size + 1 := ⟨_, rfl⟩
  obtain ⟨g3, hg3⟩ : ∃ g3, g3 = w.heap.size + 1 + 1 := ⟨_, rfl⟩
  have S0 : Aside0 (Spm w g1 g2 g3 #[.int .i64 a0_0, .int .i64 a0_1, .slice A0_2 l0_2.length c0_2, .slice A0_3 l0_3.length c0_3, .slice A0_4 l0_4.length c0_4] #[.int .i64 a0_0, .int .i64 a0_1, .slice none 0 0, .slice none 0 0, .slice none 0 0] none none none [] [] [] (((w.alloc (.cells #[.int .i64 a0_0, .int .i64 a0_1, .slice A0_2 l0_2.length c0_2, .slice A0_3 l0_3.length c0_3, .slice A0_4 l0_4.length c0_4] 25)).alloc zS).alloc (.cells #[.int .i64 a0_0, .int .i64 a0_1, .slice none 0 0, .slice none 0 0, .slice none 0 0] 31))) :=
    ⟨⟨below_alloc (below_alloc (below_alloc (Below.refl _ _) _) _) _, by rw [hg1]; exact blk_alloc (blk_alloc (blk_new _ _) _) _, by rw [hg2]; exact blk_alloc (two_boxes w _ _) _, by rw [hg3]; exact three_boxes w _ _ _, by omega, by omega, by omega, by omega, ⟨(fun _ e => nomatch e), (fun _ e => nomatch e), (fun _ e => nomatch e), (fun _ _ _ e => nomatch e)⟩⟩⟩
  have G := Aside0.mk (And.intro hg1 (And.intro hg2 hg3))
  clear hg1 hg2 hg3
  go_enter Try.func7, Try.ntmps7
  go_upto_region 4 with (fail)
  generalize ((w.alloc (.cells #[.int .i64 a0_0, .int .i64 a0_1, .slice A0_2 l0_2.length c0_2, .slice A0_3 l0_3.length c0_3, .slice A0_4 l0_4.length c0_4] 25)).alloc zS).alloc (.cells #[.int .i64 a0_0, .int .i64 a0_1, .slice none 0 0, .slice none 0 0, .slice none 0 0] 31) = W0 at S0 ⊢
  rw [← G.out.2.2, ← G.out.2.1, ← G.out.1]
  have z1 := (blk_cell S0.out.b1 2).trans (rfl : _ = some (Value.slice A0_2 l0_2.length c0_2))
  go_upto_region 5 with (go_at_call 30; (with_reducible refine (P2.out _ S0.out.d).mono ?_); rintro e W1 ⟨v2, rfl, hR, hB⟩; obtain ⟨B2, d2, rfl⟩ := Kd.R_slice hR; have S1 := Aside0.mk (S0.out.more hB (S0.out.r.mkx S0.out.d.size hR hB)); clear hR hB; have y2 := (blk_cell S1.out.b3 2).trans (rfl : _ = some (Value.slice none 0 0)); have yf := blk_frozen S1.out.b3 2)
  clear z1 y2 yf S0
  have S2 := Aside0.mk (S1.out.put 2 (.slice B2 x2.length d2) rfl)
  generalize W1.setCell ⟨g3, 2, none⟩ (.slice B2 x2.length d2) = W2 at S2 ⊢
  have z1 := (blk_cell S2.out.b1 3).trans (rfl : _ = some (Value.slice A0_3 l0_3.length c0_3))
  go_upto_region 6 with (go_at_call 31; (with_reducible refine (P3.out _ S2.out.d).mono ?_); rintro e W3 ⟨v3, rfl, hR, hB⟩; obtain ⟨B3, d3, rfl⟩ := Kd.R_slice hR; have S3 := Aside0.mk (S2.out.more hB (S2.out.r.mky S2.out.d.size hR hB)); clear hR hB; have y2 := (blk_cell S3.out.b3 3).trans (rfl : _ = some (Value.slice none 0 0)); have yf := blk_frozen S3.out.b3 3)
  clear z1 y2 yf S1 S2
  have S4 := Aside0.mk (S3.out.put 3 (.slice B3 x3.length d3) rfl)
  generalize W3.setCell ⟨g3, 3, none⟩ (.slice B3 x3.length d3) = W4 at S4 ⊢
  have z1 := (blk_cell S4.out.b1 4).trans (rfl : _ = some (Value.slice A0_4 l0_4.length c0_4))
  go_upto_region 7 with (go_at_call 30; (with_reducible refine (P4.out _ S4.out.d).mono ?_); rintro e W5 ⟨v4, rfl, hR, hB⟩; obtain ⟨B4, d4, rfl⟩ := Kd.R_slice hR; have S5 := Aside0.mk (S4.out.more hB (S4.out.r.mkz S4.out.d.size hR hB)); clear hR hB; have y2 := (blk_cell S5.out.b3 4).trans (rfl : _ = some (Value.slice none 0 0)); have yf := blk_frozen S5.out.b3 4)
  clear z1 y2 yf S3 S4
  have S6 := Aside0.mk (S5.out.put 4 (.slice B4 x4.length d4) rfl)
  generalize W5.setCell ⟨g3, 4, none⟩ (.slice B4 x4.length d4) = W6 at S6 ⊢
  have c0 := (blk_cell S6.out.b3 0).trans (rfl : _ = some (Value.int .i64 a0_0))
  have c1 := (blk_cell S6.out.b3 1).trans (rfl : _ = some (Value.int .i64 a0_1))
  have c2 := (blk_cell S6.out.b3 2).trans (rfl : _ = some (Value.slice B2 x2.length d2))
  have c3 := (blk_cell S6.out.b3 3).trans (rfl : _ = some (Value.slice B3 x3.length d3))
  have c4 := (blk_cell S6.out.b3 4).trans (rfl : _ = some (Value.slice B4 x4.length d4))
  have q0 := (blk_cell S6.out.b2 0).trans (rfl : _ = some (Value.int .i64 0))
  have q1 := (blk_cell S6.out.b2 1).trans (rfl : _ = some (Value.int .i64 0))
  have q2 := (blk_cell S6.out.b2 2).trans (rfl : _ = some (Value.slice none 0 0))
  have q3 := (blk_cell S6.out.b2 3).trans (rfl : _ = some (Value.slice none 0 0))
  have q4 := (blk_cell S6.out.b2 4).trans (rfl : _ = some (Value.slice none 0 0))
  have qf := blk_frozen S6.out.b2
  go_wp2
  have r := S6.out.r.five (T := a0_0) (E := a0_1) (u := .slice B2 x2.length d2) (v := .slice B3 x3.length d3) (x := .slice B4 x4.length d4) S6.out.b2
  refine bodyPost_ret (results_cell_row rfl _ _ g2 31 #[.int .i64 a0_0, .int .i64 a0_1, .slice B2 x2.length d2, .slice B3 x3.length d3, .slice B4 x4.length d4] (0, 0) _ rfl (put5 S6.out.b2) Try.underlying31 rfl (by kernel_rfl)) rfl ?_
  exact ⟨_, _, _, rfl, Kd.R_reok rfl (r.x _ rfl) (fun k hk e => r.xz _ _ k rfl rfl hk e.symm), r.y _ rfl, Kd.R_reok rfl (r.z _ rfl) (fun k hk e => r.xz _ _ k rfl rfl e.symm hk), five_below S6.out.d S6.out.l2⟩
end Go.Proofs.Ytcnkacbgcmnokaa.XA
