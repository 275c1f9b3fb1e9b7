/- Several texts of the session in one. -/
import Derived.Test.YtcnkacbgcmnokaaScomR
import Derived.Test.YtcnkacbgcmnokaaXR6
import Derived.Deep.RegionLaw
import Derived.Test.YtcnkacbgcmnokaaDeliR
/- The reference's step: walks. -/
namespace Go.Proofs.Ytcnkacbgcmnokaa.XR.Sstp
open Go Go.RowKit Go.Proofs.YtcnkacbgcmnokaaW.PrintWords Go.Proofs.YtcnkacbgcmnokaaW.PrintLast Go.Proofs.YtcnkacbgcmnokaaW.PrintMore Go.Proofs.Ytcnkacbgcmnokaa.XR Go.Proofs.Ytcnkacbgcmnokaa.XR.Room Go.Proofs.Ytcnkacbgcmnokaa.XR.Srel Go.Proofs.Ytcnkacbgcmnokaa.XR.Scom Go.Proofs.Ytcnkacbgcmnokaa.XR.Act
set_option linter.unusedVariables false
set_option linter.unusedSimpArgs false
attribute [local go_sem] Go.Proofs.Ytcnkacbgcmnokaa.Xtra.binOp_gtr Go.Proofs.Ytcnkacbgcmnokaa.Xtra.binOp_leq Go.Proofs.Ytcnkacbgcmnokaa.Xtra.binOp_geq
/-- The boxes of a step: those of the call, and the reply in the making. -/
structure Sx (w : World) (cs : Array Value) (kind n : Int) (gs ga g4 g5 g6 gH : Nat) (c : Int) (W : World) : Prop where
  f : Fr w cs kind n gs ga g4 g5 W
  r : W.heap[g6]? = some (.cells #[.int .i64 c, .slice (some ⟨gH, 0, none⟩) 0 0] 33 (0, 0))
  p : (Kd.int .i64).R 3 W w.heap.size (fun _ => True) (.slice (some ⟨gH, 0, none⟩) 0 0) []
  l6 : w.heap.size ≤ g6
  n46 : g4 ≠ g6
  ns : gs ≠ g6 ∧ ga ≠ g6 ∧ g5 ≠ g6
section
variable {w W W' : World} {cs : Array Value} {kind n c : Int} {gs ga g4 g5 g6 gH : Nat}
theorem Sx.start (x : Fr w cs kind n gs ga g4 g5 W) : Sx w cs kind n gs ga g4 g5 (W.heap.size + 1) W.heap.size 0 ((W.alloc (.cells #[] 3)).alloc (.cells #[.int .i64 0, .slice (some ⟨W.heap.size, 0, none⟩) 0 0] 33)) := by
  have h1 := blk_new (W.alloc (.cells #[] 3)) (.cells #[.int .i64 0, .slice (some ⟨W.heap.size, 0, none⟩) 0 0] 33)
  rw [World.size_alloc] at h1
  have l4 := x.lt (.inr (.inr (.inl rfl)))
  have ls := x.lt (.inl rfl)
  have la := x.lt (.inr (.inl rfl))
  have l5 := x.lt (.inr (.inr (.inr rfl)))
  have hs := x.d.size
  exact ⟨x.below (below_alloc (below_alloc (Below.refl _ _) _) _), h1, Kd.R_alloc (Room.empty (Kd.int .i64) 3 _ _ _ _ (blk_new W (.cells #[] 3)) hs trivial) _, by omega, by omega, by omega, by omega, by omega⟩
theorem Sx.below (x : Sx w cs kind n gs ga g4 g5 g6 gH c W) (h : Below W.heap.size W W') : Sx w cs kind n gs ga g4 g5 g6 gH c W' := ⟨x.f.below h, blk_below x.r h, Kd.R_below x.p h, x.l6, x.n46, x.ns⟩
theorem Sx.code (x : Sx w cs kind n gs ga g4 g5 g6 gH c W) (c' : Int) : Sx w cs kind n gs ga g4 g5 g6 gH c' (W.setCell ⟨g6, 0, none⟩ (.int .i64 c')) :=
  ⟨⟨blk_far x.f.s x.ns.1 _, blk_far x.f.a x.ns.2.1 _, blk_far x.f.r4 x.n46 _, blk_far x.f.r5 x.ns.2.2 _, x.f.d.setCell (p := ⟨g6, 0, none⟩) x.l6 _, x.f.l4, x.f.l5, x.f.n45⟩, blk_put x.r 0 _ rfl, Kd.R_set x.p x.r (by decide) 0 _, x.l6, x.n46, x.ns⟩
end
set_option maxHeartbeats 4000000 in
set_option maxRecDepth 100000 in
theorem other (b : Nat) (w : World) (T E : Int) (vn vh vp : Value) (now : List Int) (held : List S74) (pins : List Int) (kind n : Int) (hb : b ≤ w.heap.size) (t : Trio b w vn vh vp now held pins) (h1 : kind ≠ 1) (h2 : kind ≠ 2) (h3 : kind ≠ 3) :
    Calls Try.prog 28 #[.agg #[.int .i64 T, .int .i64 E, vn, vh, vp], .agg #[.int .i64 kind, .int .i64 n]] w (Ret b w T ⟨E, now, held, pins, 3, []⟩) := by
  obtain ⟨An, cn, rfl⟩ := Kd.R_slice t.n
  obtain ⟨Ah, ch, rfl⟩ := Kd.R_slice t.h
  obtain ⟨Ap, cp, rfl⟩ := Kd.R_slice t.p
  have hu31 := Try.underlying31
  have hu33 := Try.underlying33
  have hu37 := Try.underlying37
  have HT := Aside0.mk t
  have HBW := Aside0.mk hb
  have C0 := Aside0.mk (Fr.start w #[.int .i64 T, .int .i64 E, .slice An now.length cn, .slice Ah held.length ch, .slice Ap pins.length cp] kind n)
  have c1 : (kind == 1) = false := by simpa using h1
  have c2 : (kind == 2) = false := by simpa using h2
  have c3 : (kind == 3) = false := by simpa using h3
  clear t h1 h2 h3 hb
  go_enter Try.func28, Try.ntmps28
  go_upto_region 1 with (fail)
  generalize (((w.alloc (.cells #[.int .i64 T, .int .i64 E, .slice An now.length cn, .slice Ah held.length ch, .slice Ap pins.length cp] 31)).alloc (.cells #[.int .i64 kind, .int .i64 n] 37)).alloc (.cells #[.int .i64 0, .int .i64 0, .slice none 0 0, .slice none 0 0, .slice none 0 0] 31)).alloc (.cells #[.int .i64 0, .slice none 0 0] 33) = W1 at C0 ⊢
  generalize w.heap.size + 1 + 1 + 1 = g5 at C0 ⊢
  generalize w.heap.size + 1 + 1 = g4 at C0 ⊢
  obtain ⟨gs, hgs⟩ : ∃ gs, gs = w.heap.size := ⟨_, rfl⟩
  obtain ⟨ga, hga⟩ : ∃ ga, ga = w.heap.size + 1 := ⟨_, rfl⟩
  have C1 : Aside0 (Fr w #[.int .i64 T, .int .i64 E, .slice An now.length cn, .slice Ah held.length ch, .slice Ap pins.length cp] kind n gs ga g4 g5 W1) := ⟨by rw [hgs, hga]; exact C0.out⟩
  rw [show (Value.pointer (some ⟨w.heap.size, 0, none⟩)) = .pointer (some ⟨gs, 0, none⟩) by rw [hgs], show (Value.pointer (some ⟨w.heap.size + 1, 0, none⟩)) = .pointer (some ⟨ga, 0, none⟩) by rw [hga]]
  clear C0 hgs hga
  go_upto_region 2 with (fail)
  have X0 := Aside0.mk (Sx.start C1.out)
  clear C1
  generalize (W1.alloc (.cells #[] 3)).alloc (.cells #[.int .i64 0, .slice (some ⟨W1.heap.size, 0, none⟩) 0 0] 33) = W2 at X0 ⊢
  generalize W1.heap.size + 1 = g6 at X0 ⊢
  generalize W1.heap.size = gH at X0 ⊢
  have ha0 := (blk_cell X0.out.f.a 0).trans (rfl : _ = some (Value.int .i64 kind))
  have ha1 := (blk_cell X0.out.f.a 1).trans (rfl : _ = some (Value.int .i64 n))
  have hs0 := (blk_cell X0.out.f.s 0).trans (rfl : _ = some (Value.int .i64 T))
  have hs1 := (blk_cell X0.out.f.s 1).trans (rfl : _ = some (Value.int .i64 E))
  have hs2 := (blk_cell X0.out.f.s 2).trans (rfl : _ = some (Value.slice An now.length cn))
  have hs3 := (blk_cell X0.out.f.s 3).trans (rfl : _ = some (Value.slice Ah held.length ch))
  have hs4 := (blk_cell X0.out.f.s 4).trans (rfl : _ = some (Value.slice Ap pins.length cp))
  have hr0 := (blk_cell X0.out.r 0).trans (rfl : _ = some (Value.int .i64 0))
  have hrf := blk_frozen X0.out.r 0
  go_upto_region 21 with (fail)
  have X3 := Aside0.mk (X0.out.code 3)
  clear X0 hr0 hrf hs0 hs1 hs2 hs3 hs4 ha0 ha1
  generalize W2.setCell ⟨g6, 0, none⟩ (.int .i64 3) = W3 at X3 ⊢
  have hs0 := (blk_cell X3.out.f.s 0).trans (rfl : _ = some (Value.int .i64 T))
  have hs1 := (blk_cell X3.out.f.s 1).trans (rfl : _ = some (Value.int .i64 E))
  have hs2 := (blk_cell X3.out.f.s 2).trans (rfl : _ = some (Value.slice An now.length cn))
  have hs3 := (blk_cell X3.out.f.s 3).trans (rfl : _ = some (Value.slice Ah held.length ch))
  have hs4 := (blk_cell X3.out.f.s 4).trans (rfl : _ = some (Value.slice Ap pins.length cp))
  have he0 := (blk_cell X3.out.r 0).trans (rfl : _ = some (Value.int .i64 3))
  have he1 := (blk_cell X3.out.r 1).trans (rfl : _ = some (Value.slice (some ⟨gH, 0, none⟩) 0 0))
  have hy0 := (blk_cell X3.out.f.r4 0).trans (rfl : _ = some (Value.int .i64 0))
  have hy1 := (blk_cell X3.out.f.r4 1).trans (rfl : _ = some (Value.int .i64 0))
  have hy2 := (blk_cell X3.out.f.r4 2).trans (rfl : _ = some (Value.slice none 0 0))
  have hy3 := (blk_cell X3.out.f.r4 3).trans (rfl : _ = some (Value.slice none 0 0))
  have hy4 := (blk_cell X3.out.f.r4 4).trans (rfl : _ = some (Value.slice none 0 0))
  have hx0 := (blk_cell X3.out.f.r5 0).trans (rfl : _ = some (Value.int .i64 0))
  have hx1 := (blk_cell X3.out.f.r5 1).trans (rfl : _ = some (Value.slice none 0 0))
  have hn45 : ¬ g4 = g5 := X3.out.f.n45
  have hn54 : ¬ g5 = g4 := fun e => X3.out.f.n45 e.symm
  have hn46 : ¬ g4 = g6 := X3.out.n46
  have hn64 : ¬ g6 = g4 := fun e => X3.out.n46 e.symm
  have hfy := blk_frozen X3.out.f.r4
  have hfx := blk_frozen X3.out.f.r5
  go_region_with fail
  all_goals (
    go_wp2_with fail
    obtain ⟨t1, t2, t3, t4, t5⟩ := X3.out.f.cb.told T E 3 (.slice An now.length cn) (.slice Ah held.length ch) (.slice Ap pins.length cp) (.slice (some ⟨gH, 0, none⟩) 0 0)
    refine bodyPost_ret (results_cc rfl _ _ g4 g5 31 33 #[.int .i64 T, .int .i64 E, .slice An now.length cn, .slice Ah held.length ch, .slice Ap pins.length cp] #[.int .i64 3, .slice (some ⟨gH, 0, none⟩) 0 0] (0, 0) (0, 0) _ _ rfl (blk_drew t1) Try.underlying31 rfl (by kernel_rfl) rfl (blk_drew t2) Try.underlying33 rfl (by kernel_rfl)) rfl ?_
    exact ⟨⟨_, _, _, _, rfl, HT.out.below (below_drew t3), Kd.R_drew (t5 X3.out.p), below_drew t3⟩⟩)
set_option maxHeartbeats 4000000 in
set_option maxRecDepth 100000 in
theorem pinFull (b : Nat) (w : World) (T E : Int) (vn vh vp : Value) (now : List Int) (held : List S74) (pins : List Int) (n : Int) (hb : b ≤ w.heap.size) (t : Trio b w vn vh vp now held pins) (h1 : pins.length = 4) :
    Calls Try.prog 28 #[.agg #[.int .i64 T, .int .i64 E, vn, vh, vp], .agg #[.int .i64 2, .int .i64 n]] w (Ret b w T ⟨E, now, held, pins, 7, []⟩) := by
  obtain ⟨An, cn, rfl⟩ := Kd.R_slice t.n
  obtain ⟨Ah, ch, rfl⟩ := Kd.R_slice t.h
  obtain ⟨Ap, cp, rfl⟩ := Kd.R_slice t.p
  have hu31 := Try.underlying31
  have hu33 := Try.underlying33
  have hu37 := Try.underlying37
  have HT := Aside0.mk t
  have HBW := Aside0.mk hb
  have C0 := Aside0.mk (Fr.start w #[.int .i64 T, .int .i64 E, .slice An now.length cn, .slice Ah held.length ch, .slice Ap pins.length cp] 2 n)
  have c1 : ((pins.length : Int) == 4) = true := by rw [h1]; rfl
  have c1n : (pins.length == 4) = true := by rw [h1]; rfl
  clear t h1 hb
  go_enter Try.func28, Try.ntmps28
  go_upto_region 1 with (fail)
  generalize (((w.alloc (.cells #[.int .i64 T, .int .i64 E, .slice An now.length cn, .slice Ah held.length ch, .slice Ap pins.length cp] 31)).alloc (.cells #[.int .i64 2, .int .i64 n] 37)).alloc (.cells #[.int .i64 0, .int .i64 0, .slice none 0 0, .slice none 0 0, .slice none 0 0] 31)).alloc (.cells #[.int .i64 0, .slice none 0 0] 33) = W1 at C0 ⊢
  generalize w.heap.size + 1 + 1 + 1 = g5 at C0 ⊢
  generalize w.heap.size + 1 + 1 = g4 at C0 ⊢
  obtain ⟨gs, hgs⟩ : ∃ gs, gs = w.heap.size := ⟨_, rfl⟩
  obtain ⟨ga, hga⟩ : ∃ ga, ga = w.heap.size + 1 := ⟨_, rfl⟩
  have C1 : Aside0 (Fr w #[.int .i64 T, .int .i64 E, .slice An now.length cn, .slice Ah held.length ch, .slice Ap pins.length cp] 2 n gs ga g4 g5 W1) := ⟨by rw [hgs, hga]; exact C0.out⟩
  rw [show (Value.pointer (some ⟨w.heap.size, 0, none⟩)) = .pointer (some ⟨gs, 0, none⟩) by rw [hgs], show (Value.pointer (some ⟨w.heap.size + 1, 0, none⟩)) = .pointer (some ⟨ga, 0, none⟩) by rw [hga]]
  clear C0 hgs hga
  go_upto_region 2 with (fail)
  have X0 := Aside0.mk (Sx.start C1.out)
  clear C1
  generalize (W1.alloc (.cells #[] 3)).alloc (.cells #[.int .i64 0, .slice (some ⟨W1.heap.size, 0, none⟩) 0 0] 33) = W2 at X0 ⊢
  generalize W1.heap.size + 1 = g6 at X0 ⊢
  generalize W1.heap.size = gH at X0 ⊢
  have ha0 := (blk_cell X0.out.f.a 0).trans (rfl : _ = some (Value.int .i64 2))
  have ha1 := (blk_cell X0.out.f.a 1).trans (rfl : _ = some (Value.int .i64 n))
  have hs0 := (blk_cell X0.out.f.s 0).trans (rfl : _ = some (Value.int .i64 T))
  have hs1 := (blk_cell X0.out.f.s 1).trans (rfl : _ = some (Value.int .i64 E))
  have hs2 := (blk_cell X0.out.f.s 2).trans (rfl : _ = some (Value.slice An now.length cn))
  have hs3 := (blk_cell X0.out.f.s 3).trans (rfl : _ = some (Value.slice Ah held.length ch))
  have hs4 := (blk_cell X0.out.f.s 4).trans (rfl : _ = some (Value.slice Ap pins.length cp))
  have hr0 := (blk_cell X0.out.r 0).trans (rfl : _ = some (Value.int .i64 0))
  have hrf := blk_frozen X0.out.r 0
  go_upto_region 8 with (fail)
  have X3 := Aside0.mk (X0.out.code 7)
  clear X0 hr0 hrf hs0 hs1 hs2 hs3 hs4 ha0 ha1
  generalize W2.setCell ⟨g6, 0, none⟩ (.int .i64 7) = W3 at X3 ⊢
  have hs0 := (blk_cell X3.out.f.s 0).trans (rfl : _ = some (Value.int .i64 T))
  have hs1 := (blk_cell X3.out.f.s 1).trans (rfl : _ = some (Value.int .i64 E))
  have hs2 := (blk_cell X3.out.f.s 2).trans (rfl : _ = some (Value.slice An now.length cn))
  have hs3 := (blk_cell X3.out.f.s 3).trans (rfl : _ = some (Value.slice Ah held.length ch))
  have hs4 := (blk_cell X3.out.f.s 4).trans (rfl : _ = some (Value.slice Ap pins.length cp))
  have he0 := (blk_cell X3.out.r 0).trans (rfl : _ = some (Value.int .i64 7))
  have he1 := (blk_cell X3.out.r 1).trans (rfl : _ = some (Value.slice (some ⟨gH, 0, none⟩) 0 0))
  have hy0 := (blk_cell X3.out.f.r4 0).trans (rfl : _ = some (Value.int .i64 0))
  have hy1 := (blk_cell X3.out.f.r4 1).trans (rfl : _ = some (Value.int .i64 0))
  have hy2 := (blk_cell X3.out.f.r4 2).trans (rfl : _ = some (Value.slice none 0 0))
  have hy3 := (blk_cell X3.out.f.r4 3).trans (rfl : _ = some (Value.slice none 0 0))
  have hy4 := (blk_cell X3.out.f.r4 4).trans (rfl : _ = some (Value.slice none 0 0))
  have hx0 := (blk_cell X3.out.f.r5 0).trans (rfl : _ = some (Value.int .i64 0))
  have hx1 := (blk_cell X3.out.f.r5 1).trans (rfl : _ = some (Value.slice none 0 0))
  have hn45 : ¬ g4 = g5 := X3.out.f.n45
  have hn54 : ¬ g5 = g4 := fun e => X3.out.f.n45 e.symm
  have hn46 : ¬ g4 = g6 := X3.out.n46
  have hn64 : ¬ g6 = g4 := fun e => X3.out.n46 e.symm
  have hfy := blk_frozen X3.out.f.r4
  have hfx := blk_frozen X3.out.f.r5
  go_region_with fail
  all_goals (
    go_wp2_with fail
    obtain ⟨t1, t2, t3, t4, t5⟩ := X3.out.f.cb.told T E 7 (.slice An now.length cn) (.slice Ah held.length ch) (.slice Ap pins.length cp) (.slice (some ⟨gH, 0, none⟩) 0 0)
    refine bodyPost_ret (results_cc rfl _ _ g4 g5 31 33 #[.int .i64 T, .int .i64 E, .slice An now.length cn, .slice Ah held.length ch, .slice Ap pins.length cp] #[.int .i64 7, .slice (some ⟨gH, 0, none⟩) 0 0] (0, 0) (0, 0) _ _ rfl (blk_drew t1) Try.underlying31 rfl (by kernel_rfl) rfl (blk_drew t2) Try.underlying33 rfl (by kernel_rfl)) rfl ?_
    exact ⟨⟨_, _, _, _, rfl, HT.out.below (below_drew t3), Kd.R_drew (t5 X3.out.p), below_drew t3⟩⟩)
set_option maxHeartbeats 4000000 in
set_option maxRecDepth 100000 in
theorem unpinNone (b : Nat) (w : World) (T E : Int) (vn vh vp : Value) (now : List Int) (held : List S74) (pins : List Int) (n : Int) (hb : b ≤ w.heap.size) (t : Trio b w vn vh vp now held pins) (h1 : pins.length ≤ 1048576) (h2 : spec_l01In.f n 0 ((pins.length : Int) - 1) = some false) :
    Calls Try.prog 28 #[.agg #[.int .i64 T, .int .i64 E, vn, vh, vp], .agg #[.int .i64 3, .int .i64 n]] w (Ret b w T ⟨E, now, held, pins, 5, []⟩) := by
  obtain ⟨An, cn, rfl⟩ := Kd.R_slice t.n
  obtain ⟨Ah, ch, rfl⟩ := Kd.R_slice t.h
  obtain ⟨Ap, cp, rfl⟩ := Kd.R_slice t.p
  have hu31 := Try.underlying31
  have hu33 := Try.underlying33
  have hu37 := Try.underlying37
  have HT := Aside0.mk t
  have HBW := Aside0.mk hb
  have C0 := Aside0.mk (Fr.start w #[.int .i64 T, .int .i64 E, .slice An now.length cn, .slice Ah held.length ch, .slice Ap pins.length cp] 3 n)
  have hw := wrapsub pins.length h1
  have HW := Aside0.mk h2
  clear t h1 h2 hb
  go_enter Try.func28, Try.ntmps28
  go_upto_region 1 with (fail)
  generalize (((w.alloc (.cells #[.int .i64 T, .int .i64 E, .slice An now.length cn, .slice Ah held.length ch, .slice Ap pins.length cp] 31)).alloc (.cells #[.int .i64 3, .int .i64 n] 37)).alloc (.cells #[.int .i64 0, .int .i64 0, .slice none 0 0, .slice none 0 0, .slice none 0 0] 31)).alloc (.cells #[.int .i64 0, .slice none 0 0] 33) = W1 at C0 ⊢
  generalize w.heap.size + 1 + 1 + 1 = g5 at C0 ⊢
  generalize w.heap.size + 1 + 1 = g4 at C0 ⊢
  obtain ⟨gs, hgs⟩ : ∃ gs, gs = w.heap.size := ⟨_, rfl⟩
  obtain ⟨ga, hga⟩ : ∃ ga, ga = w.heap.size + 1 := ⟨_, rfl⟩
  have C1 : Aside0 (Fr w #[.int .i64 T, .int .i64 E, .slice An now.length cn, .slice Ah held.length ch, .slice Ap pins.length cp] 3 n gs ga g4 g5 W1) := ⟨by rw [hgs, hga]; exact C0.out⟩
  rw [show (Value.pointer (some ⟨w.heap.size, 0, none⟩)) = .pointer (some ⟨gs, 0, none⟩) by rw [hgs], show (Value.pointer (some ⟨w.heap.size + 1, 0, none⟩)) = .pointer (some ⟨ga, 0, none⟩) by rw [hga]]
  clear C0 hgs hga
  go_upto_region 2 with (fail)
  have X0 := Aside0.mk (Sx.start C1.out)
  clear C1
  generalize (W1.alloc (.cells #[] 3)).alloc (.cells #[.int .i64 0, .slice (some ⟨W1.heap.size, 0, none⟩) 0 0] 33) = W2 at X0 ⊢
  generalize W1.heap.size + 1 = g6 at X0 ⊢
  generalize W1.heap.size = gH at X0 ⊢
  have ha0 := (blk_cell X0.out.f.a 0).trans (rfl : _ = some (Value.int .i64 3))
  have ha1 := (blk_cell X0.out.f.a 1).trans (rfl : _ = some (Value.int .i64 n))
  have hs0 := (blk_cell X0.out.f.s 0).trans (rfl : _ = some (Value.int .i64 T))
  have hs1 := (blk_cell X0.out.f.s 1).trans (rfl : _ = some (Value.int .i64 E))
  have hs2 := (blk_cell X0.out.f.s 2).trans (rfl : _ = some (Value.slice An now.length cn))
  have hs3 := (blk_cell X0.out.f.s 3).trans (rfl : _ = some (Value.slice Ah held.length ch))
  have hs4 := (blk_cell X0.out.f.s 4).trans (rfl : _ = some (Value.slice Ap pins.length cp))
  go_upto_region 15 with (go_at_call 44; (try simp only [i64_w, hw]); (with_reducible refine (spec_l01In.calls n 0 ((pins.length : Int) - 1) _ _ HW.out).mono ?_); rintro e w3 ⟨rfl, hd⟩; have X1 := Aside0.mk (X0.out.below hd.below); clear hd)
  have hr0 := (blk_cell X1.out.r 0).trans (rfl : _ = some (Value.int .i64 0))
  have hrf := blk_frozen X1.out.r 0
  go_upto_region 16 with (fail)
  have X3 := Aside0.mk (X1.out.code 5)
  clear X1 hr0 hrf hs0 hs1 hs2 hs3 hs4 ha0 ha1 X0
  generalize w3.setCell ⟨g6, 0, none⟩ (.int .i64 5) = W3 at X3 ⊢
  have hs0 := (blk_cell X3.out.f.s 0).trans (rfl : _ = some (Value.int .i64 T))
  have hs1 := (blk_cell X3.out.f.s 1).trans (rfl : _ = some (Value.int .i64 E))
  have hs2 := (blk_cell X3.out.f.s 2).trans (rfl : _ = some (Value.slice An now.length cn))
  have hs3 := (blk_cell X3.out.f.s 3).trans (rfl : _ = some (Value.slice Ah held.length ch))
  have hs4 := (blk_cell X3.out.f.s 4).trans (rfl : _ = some (Value.slice Ap pins.length cp))
  have he0 := (blk_cell X3.out.r 0).trans (rfl : _ = some (Value.int .i64 5))
  have he1 := (blk_cell X3.out.r 1).trans (rfl : _ = some (Value.slice (some ⟨gH, 0, none⟩) 0 0))
  have hy0 := (blk_cell X3.out.f.r4 0).trans (rfl : _ = some (Value.int .i64 0))
  have hy1 := (blk_cell X3.out.f.r4 1).trans (rfl : _ = some (Value.int .i64 0))
  have hy2 := (blk_cell X3.out.f.r4 2).trans (rfl : _ = some (Value.slice none 0 0))
  have hy3 := (blk_cell X3.out.f.r4 3).trans (rfl : _ = some (Value.slice none 0 0))
  have hy4 := (blk_cell X3.out.f.r4 4).trans (rfl : _ = some (Value.slice none 0 0))
  have hx0 := (blk_cell X3.out.f.r5 0).trans (rfl : _ = some (Value.int .i64 0))
  have hx1 := (blk_cell X3.out.f.r5 1).trans (rfl : _ = some (Value.slice none 0 0))
  have hn45 : ¬ g4 = g5 := X3.out.f.n45
  have hn54 : ¬ g5 = g4 := fun e => X3.out.f.n45 e.symm
  have hn46 : ¬ g4 = g6 := X3.out.n46
  have hn64 : ¬ g6 = g4 := fun e => X3.out.n46 e.symm
  have hfy := blk_frozen X3.out.f.r4
  have hfx := blk_frozen X3.out.f.r5
  go_region_with fail
  all_goals (
    go_wp2_with fail
    obtain ⟨t1, t2, t3, t4, t5⟩ := X3.out.f.cb.told T E 5 (.slice An now.length cn) (.slice Ah held.length ch) (.slice Ap pins.length cp) (.slice (some ⟨gH, 0, none⟩) 0 0)
    refine bodyPost_ret (results_cc rfl _ _ g4 g5 31 33 #[.int .i64 T, .int .i64 E, .slice An now.length cn, .slice Ah held.length ch, .slice Ap pins.length cp] #[.int .i64 5, .slice (some ⟨gH, 0, none⟩) 0 0] (0, 0) (0, 0) _ _ rfl (blk_drew t1) Try.underlying31 rfl (by kernel_rfl) rfl (blk_drew t2) Try.underlying33 rfl (by kernel_rfl)) rfl ?_
    exact ⟨⟨_, _, _, _, rfl, HT.out.below (below_drew t3), Kd.R_drew (t5 X3.out.p), below_drew t3⟩⟩)
end Go.Proofs.Ytcnkacbgcmnokaa.XR.Sstp
/- The reference's step where something is done: walks. -/
namespace Go.Proofs.Ytcnkacbgcmnokaa.XR.Sstp
open Go Go.RowKit Go.Proofs.YtcnkacbgcmnokaaW.PrintWords Go.Proofs.YtcnkacbgcmnokaaW.PrintLast Go.Proofs.YtcnkacbgcmnokaaW.PrintMore Go.Proofs.Ytcnkacbgcmnokaa.XR Go.Proofs.Ytcnkacbgcmnokaa.XR.Room Go.Proofs.Ytcnkacbgcmnokaa.XR.Srel Go.Proofs.Ytcnkacbgcmnokaa.XR.Scom Go.Proofs.Ytcnkacbgcmnokaa.XR.Act
set_option linter.unusedVariables false
set_option linter.unusedSimpArgs false
attribute [local go_sem] Go.Proofs.Ytcnkacbgcmnokaa.Xtra.binOp_gtr Go.Proofs.Ytcnkacbgcmnokaa.Xtra.binOp_leq Go.Proofs.Ytcnkacbgcmnokaa.Xtra.binOp_geq
set_option maxHeartbeats 8000000 in
set_option maxRecDepth 100000 in
theorem commit (b : Nat) (w : World) (T E : Int) (vn vh vp : Value) (now : List Int) (held : List S74) (pins : List Int) (n : Int) (o : Out) (hb : b ≤ w.heap.size) (t : Trio b w vn vh vp now held pins) (h : ∀ V, Below w.heap.size w V → Calls Try.prog 45 #[.agg #[.int .i64 T, .int .i64 E, vn, vh, vp], .int .i64 n] V (Ret b V T o)) :
    Calls Try.prog 28 #[.agg #[.int .i64 T, .int .i64 E, vn, vh, vp], .agg #[.int .i64 1, .int .i64 n]] w (Ret b w T o) := by
  obtain ⟨An, cn, rfl⟩ := Kd.R_slice t.n
  obtain ⟨Ah, ch, rfl⟩ := Kd.R_slice t.h
  obtain ⟨Ap, cp, rfl⟩ := Kd.R_slice t.p
  have hu31 := Try.underlying31
  have hu33 := Try.underlying33
  have hu37 := Try.underlying37
  have HT := Aside0.mk t
  have HBW := Aside0.mk hb
  have C0 := Aside0.mk (Fr.start w #[.int .i64 T, .int .i64 E, .slice An now.length cn, .slice Ah held.length ch, .slice Ap pins.length cp] 1 n)
  have HH := Aside0.mk h
  clear t hb h
  go_enter Try.func28, Try.ntmps28
  go_upto_region 1 with (fail)
  generalize (((w.alloc (.cells #[.int .i64 T, .int .i64 E, .slice An now.length cn, .slice Ah held.length ch, .slice Ap pins.length cp] 31)).alloc (.cells #[.int .i64 1, .int .i64 n] 37)).alloc (.cells #[.int .i64 0, .int .i64 0, .slice none 0 0, .slice none 0 0, .slice none 0 0] 31)).alloc (.cells #[.int .i64 0, .slice none 0 0] 33) = W1 at C0 ⊢
  generalize w.heap.size + 1 + 1 + 1 = g5 at C0 ⊢
  generalize w.heap.size + 1 + 1 = g4 at C0 ⊢
  obtain ⟨gs, hgs⟩ : ∃ gs, gs = w.heap.size := ⟨_, rfl⟩
  obtain ⟨ga, hga⟩ : ∃ ga, ga = w.heap.size + 1 := ⟨_, rfl⟩
  have C1 : Aside0 (Fr w #[.int .i64 T, .int .i64 E, .slice An now.length cn, .slice Ah held.length ch, .slice Ap pins.length cp] 1 n gs ga g4 g5 W1) := ⟨by rw [hgs, hga]; exact C0.out⟩
  rw [show (Value.pointer (some ⟨w.heap.size, 0, none⟩)) = .pointer (some ⟨gs, 0, none⟩) by rw [hgs], show (Value.pointer (some ⟨w.heap.size + 1, 0, none⟩)) = .pointer (some ⟨ga, 0, none⟩) by rw [hga]]
  clear C0 hgs hga
  go_upto_region 2 with (fail)
  have X0 := Aside0.mk (Sx.start C1.out)
  clear C1
  generalize (W1.alloc (.cells #[] 3)).alloc (.cells #[.int .i64 0, .slice (some ⟨W1.heap.size, 0, none⟩) 0 0] 33) = W2 at X0 ⊢
  generalize W1.heap.size + 1 = g6 at X0 ⊢
  generalize W1.heap.size = gH at X0 ⊢
  have ha0 := (blk_cell X0.out.f.a 0).trans (rfl : _ = some (Value.int .i64 1))
  have ha1 := (blk_cell X0.out.f.a 1).trans (rfl : _ = some (Value.int .i64 n))
  have hs0 := (blk_cell X0.out.f.s 0).trans (rfl : _ = some (Value.int .i64 T))
  have hs1 := (blk_cell X0.out.f.s 1).trans (rfl : _ = some (Value.int .i64 E))
  have hs2 := (blk_cell X0.out.f.s 2).trans (rfl : _ = some (Value.slice An now.length cn))
  have hs3 := (blk_cell X0.out.f.s 3).trans (rfl : _ = some (Value.slice Ah held.length ch))
  have hs4 := (blk_cell X0.out.f.s 4).trans (rfl : _ = some (Value.slice Ap pins.length cp))
  go_wp2_with (go_at_call 45; (with_reducible refine (HH.out _ X0.out.f.d).mono ?_); rintro e w3 ⟨⟨u2, u3, u4, u5, rfl, ht, hr, hB⟩⟩; obtain ⟨D2, f2, e2⟩ := Kd.R_slice ht.n; obtain ⟨D3, f3, e3⟩ := Kd.R_slice ht.h; obtain ⟨D4, f4, e4⟩ := Kd.R_slice ht.p; obtain ⟨D5, f5, e5⟩ := Kd.R_slice hr; generalize List.length _ = m2 at e2; generalize List.length _ = m3 at e3; generalize List.length _ = m4 at e4; generalize List.length _ = m5 at e5; subst e2 e3 e4 e5; have T3 := Aside0.mk ht; have R3 := Aside0.mk (Kd.R_lower hr X0.out.f.d.size); have X3 := Aside0.mk (X0.out.below hB); clear ht hr hB X0 hs0 hs1 hs2 hs3 hs4 ha0 ha1; have hy0 := (blk_cell X3.out.f.r4 0).trans (rfl : _ = some (Value.int .i64 0)); have hy1 := (blk_cell X3.out.f.r4 1).trans (rfl : _ = some (Value.int .i64 0)); have hy2 := (blk_cell X3.out.f.r4 2).trans (rfl : _ = some (Value.slice none 0 0)); have hy3 := (blk_cell X3.out.f.r4 3).trans (rfl : _ = some (Value.slice none 0 0)); have hy4 := (blk_cell X3.out.f.r4 4).trans (rfl : _ = some (Value.slice none 0 0)); have hx0 := (blk_cell X3.out.f.r5 0).trans (rfl : _ = some (Value.int .i64 0)); have hx1 := (blk_cell X3.out.f.r5 1).trans (rfl : _ = some (Value.slice none 0 0)); have hn45 : ¬ g4 = g5 := X3.out.f.n45; have hn54 : ¬ g5 = g4 := fun e => X3.out.f.n45 e.symm; have hfy := blk_frozen X3.out.f.r4; have hfx := blk_frozen X3.out.f.r5)
  obtain ⟨t1, t2, t3, t4, t5⟩ := X3.out.f.cb.told T o.E o.code (.slice D2 m2 f2) (.slice D3 m3 f3) (.slice D4 m4 f4) (.slice D5 m5 f5)
  refine bodyPost_ret (results_cc rfl _ _ g4 g5 31 33 #[.int .i64 T, .int .i64 o.E, .slice D2 m2 f2, .slice D3 m3 f3, .slice D4 m4 f4] #[.int .i64 o.code, .slice D5 m5 f5] (0, 0) (0, 0) _ _ rfl t1 Try.underlying31 rfl (by kernel_rfl) rfl t2 Try.underlying33 rfl (by kernel_rfl)) rfl ?_
  exact ⟨⟨_, _, _, _, rfl, X3.out.f.cb.seven T3.out _ _ _ _ _ _ _, t5 R3.out, t3⟩⟩
end Go.Proofs.Ytcnkacbgcmnokaa.XR.Sstp
/- The reference's step where a pin is set: a walk. -/
namespace Go.Proofs.Ytcnkacbgcmnokaa.XR.Sstp
open Go Go.RowKit Go.Proofs.YtcnkacbgcmnokaaW.PrintWords Go.Proofs.YtcnkacbgcmnokaaW.PrintLast Go.Proofs.YtcnkacbgcmnokaaW.PrintMore Go.Proofs.Ytcnkacbgcmnokaa.XR Go.Proofs.Ytcnkacbgcmnokaa.XR.Room Go.Proofs.Ytcnkacbgcmnokaa.XR.Srel Go.Proofs.Ytcnkacbgcmnokaa.XR.Scom Go.Proofs.Ytcnkacbgcmnokaa.XR.Act
set_option linter.unusedVariables false
set_option linter.unusedSimpArgs false
attribute [local go_sem] Go.Proofs.Ytcnkacbgcmnokaa.Xtra.binOp_gtr Go.Proofs.Ytcnkacbgcmnokaa.Xtra.binOp_leq Go.Proofs.Ytcnkacbgcmnokaa.Xtra.binOp_geq
section
variable {w W W' : World} {cs : Array Value} {kind n c : Int} {gs ga g4 g5 g6 gH bq : Nat}
theorem Sx.under (x : Sx w cs kind n gs ga g4 g5 g6 gH c W) (hl : gs < bq ∧ ga < bq ∧ g4 < bq ∧ g5 < bq ∧ g6 < bq ∧ gH < bq ∧ w.heap.size ≤ bq) (hB : Below bq W W') : Sx w cs kind n gs ga g4 g5 g6 gH c W' :=
  ⟨⟨(hB.block _ hl.1).trans x.f.s, (hB.block _ hl.2.1).trans x.f.a, (hB.block _ hl.2.2.1).trans x.f.r4, (hB.block _ hl.2.2.2.1).trans x.f.r5, x.f.d.trans (hB.mono hl.2.2.2.2.2.2), x.f.l4, x.f.l5, x.f.n45⟩, (hB.block _ hl.2.2.2.2.1).trans x.r, Kd.R_mono (Kd.R_step (Kd.R_tight rfl x.p) (fun k hk _ => hB.block k (by
    have : gH = k := by simpa [Value.ownBlock] using hk.symm
    omega))) (fun _ _ => trivial), x.l6, x.n46, x.ns⟩
theorem Sx.lts (x : Sx w cs kind n gs ga g4 g5 g6 gH c W) : gs < W.heap.size ∧ ga < W.heap.size ∧ g4 < W.heap.size ∧ g5 < W.heap.size ∧ g6 < W.heap.size ∧ gH < W.heap.size ∧ w.heap.size ≤ W.heap.size :=
  ⟨blk_lt x.f.s, blk_lt x.f.a, blk_lt x.f.r4, blk_lt x.f.r5, blk_lt x.r, Kd.R_lt x.p gH (by simp [Value.ownBlock]), x.f.d.size⟩
end
set_option maxHeartbeats 8000000 in
set_option maxRecDepth 100000 in
theorem pin (b : Nat) (w : World) (T E : Int) (vn vh vp : Value) (now : List Int) (held : List S74) (pins : List Int) (n : Int) (hb : b ≤ w.heap.size) (t : Trio b w vn vh vp now held pins) (h1 : pins.length ≠ 4) (h5 : now.length ≤ 1048576) (h6 : held.length ≤ 1048576) (h8 : pins.length ≤ 1048576) :
    Calls Try.prog 28 #[.agg #[.int .i64 T, .int .i64 E, vn, vh, vp], .agg #[.int .i64 2, .int .i64 n]] w (Ret b w T ⟨E, now, held, pins ++ [E], 0, now⟩) := by
  obtain ⟨An, cn, rfl⟩ := Kd.R_slice t.n
  obtain ⟨Ah, ch, rfl⟩ := Kd.R_slice t.h
  obtain ⟨Ap, cp, rfl⟩ := Kd.R_slice t.p
  have hu31 := Try.underlying31
  have hu33 := Try.underlying33
  have hu37 := Try.underlying37
  have HT := Aside0.mk t
  have HBW := Aside0.mk hb
  have C0 := Aside0.mk (Fr.start w #[.int .i64 T, .int .i64 E, .slice An now.length cn, .slice Ah held.length ch, .slice Ap pins.length cp] 2 n)
  have c1 : ((pins.length : Int) == 4) = false := beq_eq_false_iff_ne.2 (by omega)
  have c1n : (pins.length == 4) = false := beq_eq_false_iff_ne.2 h1
  have H5 := Aside0.mk h5
  have H6 := Aside0.mk h6
  have H8 := Aside0.mk h8
  clear t h1 hb h5 h6 h8
  go_enter Try.func28, Try.ntmps28
  go_upto_region 1 with (fail)
  generalize (((w.alloc (.cells #[.int .i64 T, .int .i64 E, .slice An now.length cn, .slice Ah held.length ch, .slice Ap pins.length cp] 31)).alloc (.cells #[.int .i64 2, .int .i64 n] 37)).alloc (.cells #[.int .i64 0, .int .i64 0, .slice none 0 0, .slice none 0 0, .slice none 0 0] 31)).alloc (.cells #[.int .i64 0, .slice none 0 0] 33) = W1 at C0 ⊢
  generalize w.heap.size + 1 + 1 + 1 = g5 at C0 ⊢
  generalize w.heap.size + 1 + 1 = g4 at C0 ⊢
  obtain ⟨gs, hgs⟩ : ∃ gs, gs = w.heap.size := ⟨_, rfl⟩
  obtain ⟨ga, hga⟩ : ∃ ga, ga = w.heap.size + 1 := ⟨_, rfl⟩
  have C1 : Aside0 (Fr w #[.int .i64 T, .int .i64 E, .slice An now.length cn, .slice Ah held.length ch, .slice Ap pins.length cp] 2 n gs ga g4 g5 W1) := ⟨by rw [hgs, hga]; exact C0.out⟩
  rw [show (Value.pointer (some ⟨w.heap.size, 0, none⟩)) = .pointer (some ⟨gs, 0, none⟩) by rw [hgs], show (Value.pointer (some ⟨w.heap.size + 1, 0, none⟩)) = .pointer (some ⟨ga, 0, none⟩) by rw [hga]]
  clear C0 hgs hga
  go_upto_region 2 with (fail)
  have X0 := Aside0.mk (Sx.start C1.out)
  clear C1
  generalize (W1.alloc (.cells #[] 3)).alloc (.cells #[.int .i64 0, .slice (some ⟨W1.heap.size, 0, none⟩) 0 0] 33) = W2 at X0 ⊢
  generalize W1.heap.size + 1 = g6 at X0 ⊢
  generalize W1.heap.size = gH at X0 ⊢
  have ha0 := (blk_cell X0.out.f.a 0).trans (rfl : _ = some (Value.int .i64 2))
  have ha1 := (blk_cell X0.out.f.a 1).trans (rfl : _ = some (Value.int .i64 n))
  have hs0 := (blk_cell X0.out.f.s 0).trans (rfl : _ = some (Value.int .i64 T))
  have hs1 := (blk_cell X0.out.f.s 1).trans (rfl : _ = some (Value.int .i64 E))
  have hs2 := (blk_cell X0.out.f.s 2).trans (rfl : _ = some (Value.slice An now.length cn))
  have hs3 := (blk_cell X0.out.f.s 3).trans (rfl : _ = some (Value.slice Ah held.length ch))
  have hs4 := (blk_cell X0.out.f.s 4).trans (rfl : _ = some (Value.slice Ap pins.length cp))
  go_upto_region 10 with (go_at_call 29; (with_reducible refine (own T E (HT.out.below X0.out.f.d) ?l1 ?l2 ?l3).mono ?_); (case l1 => have := H5.out; omega); (case l2 => have := H6.out; omega); (case l3 => have := H8.out; omega); rintro e w3 ⟨v2, v3, v4, rfl, ht, hB⟩; obtain ⟨B2, d2, e2⟩ := Kd.R_slice ht.n; obtain ⟨B3, d3, e3⟩ := Kd.R_slice ht.h; obtain ⟨B4, d4, e4⟩ := Kd.R_slice ht.p; generalize now.length = n3 at e2; generalize held.length = n4 at e3; generalize hn5 : pins.length = n5 at e4; subst e2 e3 e4; have HN5 := Aside0.mk hn5; clear hn5; have T3 := Aside0.mk ht; have D3 := Aside0.mk hB; have X3 := Aside0.mk (X0.out.below hB); clear ht hB)
  have BA := below_alloc (Below.refl w3.heap.size w3) (.cells #[.int .i64 T, .int .i64 E, .slice B2 n3 d2, .slice B3 n4 d3, .slice B4 n5 d4] 31)
  have S5 := Aside0.mk (St.start (Own.mk (blk_new w3 (.cells #[.int .i64 T, .int .i64 E, .slice B2 n3 d2, .slice B3 n4 d3, .slice B4 n5 d4] 31)) D3.out.size (T3.out.below BA)))
  have X5 := Aside0.mk (X3.out.below BA)
  have LT := Aside0.mk X0.out.lts
  have LB : Aside0 (W2.heap.size ≤ (w3.alloc (.cells #[.int .i64 T, .int .i64 E, .slice B2 n3 d2, .slice B3 n4 d3, .slice B4 n5 d4] 31)).heap.size ∧ g6 < w3.heap.size) := ⟨Nat.le_trans D3.out.size BA.size, Nat.lt_of_lt_of_le LT.out.2.2.2.2.1 D3.out.size⟩
  clear BA T3 X3 X0 D3 hs0 hs1 hs2 hs3 hs4 ha0 ha1 c1 c1n
  generalize w3.alloc (.cells #[.int .i64 T, .int .i64 E, .slice B2 n3 d2, .slice B3 n4 d3, .slice B4 n5 d4] 31) = W5 at S5 X5 LB ⊢
  generalize w3.heap.size = gb at S5 LB ⊢
  generalize W2.heap.size = bq at S5 LT LB
  have hs1 := (blk_cell X5.out.f.s 1).trans (rfl : _ = some (Value.int .i64 E))
  have hb4 := (blk_cell S5.out.o.box 4).trans (rfl : _ = some (Value.slice B4 n5 d4))
  have CP : Aside0 ((pins.length + 1) * 8 ≤ 140737488355328) := ⟨by have := H8.out; omega⟩
  go_upto_region 11 with ((with_reducible refine gate_builtin (b := .append) (xs := #[.tmp 33, .tmp 36]) rfl ?_); at_builtin; refine Kd.R_append (Kd.int .i64) (w0 := W5) bq rfl (.tmp 33) (.tmp 36) 22 3 (.int .i64 0) 8 rfl Try.underlying22 info3 rfl (by decide) (by omega) (.slice B4 n5 d4) pins E [.int .i64 E] (fun _ => True) (fun _ => False) rfl rfl rfl (fun _ h => h.elim) (fun _ _ => trivial) S5.out.o.r.p (Below.refl _ _) LB.out.1 CP.out ?_; intro v1 w1 ho hB hg hat; obtain ⟨A1, f1, e1⟩ := Kd.R_slice ho; generalize List.length _ = n1 at e1; subst e1; have S6 := Aside0.mk (S5.out.toPins ho hB (grown_kept hg) (Move.hat hat)); have hbx := blk_grown S5.out.o.box hg (Kd.R_ne S5.out.o.r.p S5.out.o.box (by decide)); have hz4 := (blk_cell hbx 4).trans (rfl : _ = some (Value.slice B4 n5 d4)); have hf4 := blk_frozen hbx 4; clear ho hB hg hat hbx)
  have X6 := Aside0.mk (X5.out.under LT.out S6.out.d)
  clear S5 X5 hs1 hb4 hz4 hf4 CP
  generalize w1.setCell ⟨gb, 4, none⟩ (.slice A1 n1 f1) = W6 at S6 X6 ⊢
  have LW : Aside0 (bq ≤ W6.heap.size) := ⟨Nat.le_trans LB.out.1 S6.out.k.1⟩
  have hs2 := (blk_cell X6.out.f.s 2).trans (rfl : _ = some (Value.slice An now.length cn))
  have hr1 := (blk_cell X6.out.r 1).trans (rfl : _ = some (Value.slice (some ⟨gH, 0, none⟩) 0 0))
  have CN : Aside0 ((0 + now.length) * 8 ≤ 140737488355328) := ⟨by have := H5.out; omega⟩
  go_upto_region 12 with ((with_reducible refine gate_builtin (b := .append) (xs := #[.tmp 40, .tmp 42]) rfl ?_); at_builtin; refine Kd.R_append_rows (Kd.int .i64) (w0 := w) w.heap.size rfl (.tmp 40) (.tmp 42) 22 3 (.int .i64 0) 8 rfl Try.underlying22 info3 rfl (by decide) (by omega) (.slice (some ⟨gH, 0, none⟩) 0 0) [] now _ _ _ (fun _ => True) (fun _ => False) rfl rfl X6.out.p (Kd.R_reads' (HT.out.below X6.out.f.d).n).2.2 (fun _ _ h => h) (fun _ h => h.elim) (fun _ _ => trivial) X6.out.f.d X6.out.f.d.size (by simp only [List.length_nil]; exact CN.out) ?_; intro v7 w7 ho hB hg hat; obtain ⟨A7, f7, e7⟩ := Kd.R_slice ho; generalize List.length _ = n7 at e7; subst e7; have R7 := Aside0.mk ho; have B7 := Aside0.mk hB; have G7 := Aside0.mk hg; have k7 := grown_kept (v := .slice (some ⟨gH, 0, none⟩) 0 0) hg; have hbx := (k7.2 g6 (blk_lt X6.out.r) (Kd.R_ne X6.out.p X6.out.r (by decide))).trans X6.out.r; have F7 := Aside0.mk (Fr.mk ((k7.2 gs (blk_lt X6.out.f.s) (Kd.R_ne X6.out.p X6.out.f.s (by decide))).trans X6.out.f.s) ((k7.2 ga (blk_lt X6.out.f.a) (Kd.R_ne X6.out.p X6.out.f.a (by decide))).trans X6.out.f.a) ((k7.2 g4 (blk_lt X6.out.f.r4) (Kd.R_ne X6.out.p X6.out.f.r4 (by decide))).trans X6.out.f.r4) ((k7.2 g5 (blk_lt X6.out.f.r5) (Kd.R_ne X6.out.p X6.out.f.r5 (by decide))).trans X6.out.f.r5) hB X6.out.f.l4 X6.out.f.l5 X6.out.f.n45); have O7 := Aside0.mk ((k7.2 gb (blk_lt S6.out.o.box) (Kd.R_ne X6.out.p S6.out.o.box (by decide))).trans S6.out.o.box); have T7 := Aside0.mk (S6.out.o.r.far (H := gH) hg LT.out.2.2.2.2.2.1); have Z7 := Aside0.mk hbx; clear ho hB hg hat k7; have hz6 := (blk_cell hbx 1).trans (rfl : _ = some (Value.slice (some ⟨gH, 0, none⟩) 0 0)); have hf6 := blk_frozen hbx 1; clear hbx)
  rw [List.nil_append] at R7
  have n6b : gb ≠ g6 := Nat.ne_of_gt LB.out.2
  have Y : Aside0 (Fr w #[.int .i64 T, .int .i64 E, .slice An now.length cn, .slice Ah held.length ch, .slice Ap pins.length cp] 2 n gs ga g4 g5 (w7.setCell ⟨g6, 1, none⟩ (.slice A7 n7 f7))) := ⟨⟨blk_far F7.out.s X6.out.ns.1 _, blk_far F7.out.a X6.out.ns.2.1 _, blk_far F7.out.r4 X6.out.n46 _, blk_far F7.out.r5 X6.out.ns.2.2 _, F7.out.d.setCell (p := ⟨g6, 1, none⟩) X6.out.l6 _, F7.out.l4, F7.out.l5, F7.out.n45⟩⟩
  have O8 := Aside0.mk (blk_far (p := ⟨g6, 1, none⟩) O7.out n6b (.slice A7 n7 f7))
  have Z8 := Aside0.mk (blk_put Z7.out 1 (.slice A7 n7 f7) rfl)
  have T8 := Aside0.mk (T7.out.set Z7.out (by decide) (by decide) 1 (.slice A7 n7 f7))
  have R8 := Aside0.mk (Kd.R_set R7.out Z7.out (by decide) 1 (.slice A7 n7 f7))
  have hn46 : ¬ g4 = g6 := X6.out.n46
  have hn64 : ¬ g6 = g4 := fun e => X6.out.n46 e.symm
  clear S6 X6 R7 F7 O7 T7 Z7 hz6 hf6 hs2 hr1 CN B7 G7
  generalize w7.setCell ⟨g6, 1, none⟩ (.slice A7 n7 f7) = W8 at Y O8 Z8 T8 R8 ⊢
  have hb0 := (blk_cell O8.out 0).trans (rfl : _ = some (Value.int .i64 T))
  have hb1 := (blk_cell O8.out 1).trans (rfl : _ = some (Value.int .i64 E))
  have hb2 := (blk_cell O8.out 2).trans (rfl : _ = some (Value.slice B2 n3 d2))
  have hb3 := (blk_cell O8.out 3).trans (rfl : _ = some (Value.slice B3 n4 d3))
  have hb4 := (blk_cell O8.out 4).trans (rfl : _ = some (Value.slice A1 n1 f1))
  have he0 := (blk_cell Z8.out 0).trans (rfl : _ = some (Value.int .i64 0))
  have he1 := (blk_cell Z8.out 1).trans (rfl : _ = some (Value.slice A7 n7 f7))
  have hy0 := (blk_cell Y.out.r4 0).trans (rfl : _ = some (Value.int .i64 0))
  have hy1 := (blk_cell Y.out.r4 1).trans (rfl : _ = some (Value.int .i64 0))
  have hy2 := (blk_cell Y.out.r4 2).trans (rfl : _ = some (Value.slice none 0 0))
  have hy3 := (blk_cell Y.out.r4 3).trans (rfl : _ = some (Value.slice none 0 0))
  have hy4 := (blk_cell Y.out.r4 4).trans (rfl : _ = some (Value.slice none 0 0))
  have hx0 := (blk_cell Y.out.r5 0).trans (rfl : _ = some (Value.int .i64 0))
  have hx1 := (blk_cell Y.out.r5 1).trans (rfl : _ = some (Value.slice none 0 0))
  have hn45 : ¬ g4 = g5 := Y.out.n45
  have hn54 : ¬ g5 = g4 := fun e => Y.out.n45 e.symm
  have hfy := blk_frozen Y.out.r4
  have hfx := blk_frozen Y.out.r5
  have HQ : Aside0 (b ≤ bq) := ⟨Nat.le_trans HBW.out LT.out.2.2.2.2.2.2⟩
  clear LB n6b
  go_region_with fail
  all_goals (
    go_wp2_with fail
    obtain ⟨t1, t2, t3, t4, t5⟩ := Y.out.cb.told T E 0 (.slice B2 n3 d2) (.slice B3 n4 d3) (.slice A1 n1 f1) (.slice A7 n7 f7)
    refine bodyPost_ret (results_cc rfl _ _ g4 g5 31 33 #[.int .i64 T, .int .i64 E, .slice B2 n3 d2, .slice B3 n4 d3, .slice A1 n1 f1] #[.int .i64 0, .slice A7 n7 f7] (0, 0) (0, 0) _ _ rfl (blk_drew t1) Try.underlying31 rfl (by kernel_rfl) rfl (blk_drew t2) Try.underlying33 rfl (by kernel_rfl)) rfl ?_
    exact ⟨⟨_, _, _, _, rfl, ((Y.out.cb.seven T8.out _ _ _ _ _ _ _).lower HQ.out).below (below_drew (Below.refl _ _)), Kd.R_drew (t5 R8.out), below_drew t3⟩⟩)
end Go.Proofs.Ytcnkacbgcmnokaa.XR.Sstp
/- The reference's step where a pin is taken back: a walk. -/
namespace Go.Proofs.Ytcnkacbgcmnokaa.XR.Sstp
open Go Go.RowKit Go.Proofs.YtcnkacbgcmnokaaW.PrintWords Go.Proofs.YtcnkacbgcmnokaaW.PrintLast Go.Proofs.YtcnkacbgcmnokaaW.PrintMore Go.Proofs.Ytcnkacbgcmnokaa.XR Go.Proofs.Ytcnkacbgcmnokaa.XR.Room Go.Proofs.Ytcnkacbgcmnokaa.XR.Srel Go.Proofs.Ytcnkacbgcmnokaa.XR.Scom Go.Proofs.Ytcnkacbgcmnokaa.XR.Act
set_option linter.unusedVariables false
set_option linter.unusedSimpArgs false
attribute [local go_sem] Go.Proofs.Ytcnkacbgcmnokaa.Xtra.binOp_gtr Go.Proofs.Ytcnkacbgcmnokaa.Xtra.binOp_leq Go.Proofs.Ytcnkacbgcmnokaa.Xtra.binOp_geq
theorem cDrop {W : World} {b : Nat} {ok : Nat → Prop} {g c : Nat} {l : List Int} (h : (Kd.int .i64).R 3 W b ok (.slice (some ⟨g, 0, none⟩) l.length c) l) (i : Nat) (hi : i < l.length) : Kd.C (Kd.int .i64) W (if c = i + 1 then some ⟨g, 0, none⟩ else some ⟨g, i + 1, none⟩) (l.length - (i + 1)) (l.drop (i + 1)) := by
  have h2 := Kd.C_drop (m := i + 1) (c := c) (Kd.R_reads' h).2.2 (by omega) (Kd.R_reads' h).2.1
  rw [← Deli.at_add, List.length_drop] at h2
  exact h2
theorem cTake {W : World} {b : Nat} {ok : Nat → Prop} {A : Option Addr} {c : Nat} {l : List Int} (h : (Kd.int .i64).R 3 W b ok (.slice A l.length c) l) (i : Nat) (hi : i ≤ l.length) : Kd.C (Kd.int .i64) W A i (l.take i) := by
  have h2 := (Kd.R_reads' (Kd.R_take h hi)).2.2
  rw [show (l.take i).length = i from by rw [List.length_take]; omega] at h2
  exact h2
set_option maxHeartbeats 8000000 in
set_option maxRecDepth 100000 in
theorem unpin (b : Nat) (w : World) (T E : Int) (vn vh vp : Value) (now : List Int) (held : List S74) (pins : List Int) (i : Nat) (hb : b ≤ w.heap.size) (t : Trio b w vn vh vp now held pins) (h2 : spec_l01In.f (i : Int) 0 ((pins.length : Int) - 1) = some true) (h3 : i < pins.length) (h5 : now.length ≤ 1048576) (h6 : held.length ≤ 1048576) (h8 : pins.length ≤ 1048576) :
    Calls Try.prog 28 #[.agg #[.int .i64 T, .int .i64 E, vn, vh, vp], .agg #[.int .i64 3, .int .i64 (i : Int)]] w (Ret b w T ⟨E, now, held.filter (kp E (pins.take i ++ pins.drop (i + 1))), pins.take i ++ pins.drop (i + 1), 0, []⟩) := by
  obtain ⟨An, cn, rfl⟩ := Kd.R_slice t.n
  obtain ⟨Ah, ch, rfl⟩ := Kd.R_slice t.h
  obtain ⟨Ap, cp, rfl⟩ := Kd.R_slice t.p
  have hu31 := Try.underlying31
  have hu33 := Try.underlying33
  have hu37 := Try.underlying37
  have HT := Aside0.mk t
  have HBW := Aside0.mk hb
  have C0 := Aside0.mk (Fr.start w #[.int .i64 T, .int .i64 E, .slice An now.length cn, .slice Ah held.length ch, .slice Ap pins.length cp] 3 (i : Int))
  have hw := wrapsub pins.length h8
  have hwi := wrapadd i (by omega)
  have HW := Aside0.mk h2
  have H3 := Aside0.mk h3
  have H5 := Aside0.mk h5
  have H6 := Aside0.mk h6
  have H8 := Aside0.mk h8
  clear t hb h2 h3 h5 h6 h8
  go_enter Try.func28, Try.ntmps28
  go_upto_region 1 with (fail)
  generalize (((w.alloc (.cells #[.int .i64 T, .int .i64 E, .slice An now.length cn, .slice Ah held.length ch, .slice Ap pins.length cp] 31)).alloc (.cells #[.int .i64 3, .int .i64 (i : Int)] 37)).alloc (.cells #[.int .i64 0, .int .i64 0, .slice none 0 0, .slice none 0 0, .slice none 0 0] 31)).alloc (.cells #[.int .i64 0, .slice none 0 0] 33) = W1 at C0 ⊢
  generalize w.heap.size + 1 + 1 + 1 = g5 at C0 ⊢
  generalize w.heap.size + 1 + 1 = g4 at C0 ⊢
  obtain ⟨gs, hgs⟩ : ∃ gs, gs = w.heap.size := ⟨_, rfl⟩
  obtain ⟨ga, hga⟩ : ∃ ga, ga = w.heap.size + 1 := ⟨_, rfl⟩
  have C1 : Aside0 (Fr w #[.int .i64 T, .int .i64 E, .slice An now.length cn, .slice Ah held.length ch, .slice Ap pins.length cp] 3 (i : Int) gs ga g4 g5 W1) := ⟨by rw [hgs, hga]; exact C0.out⟩
  rw [show (Value.pointer (some ⟨w.heap.size, 0, none⟩)) = .pointer (some ⟨gs, 0, none⟩) by rw [hgs], show (Value.pointer (some ⟨w.heap.size + 1, 0, none⟩)) = .pointer (some ⟨ga, 0, none⟩) by rw [hga]]
  clear C0 hgs hga
  go_upto_region 2 with (fail)
  have X0 := Aside0.mk (Sx.start C1.out)
  clear C1
  generalize (W1.alloc (.cells #[] 3)).alloc (.cells #[.int .i64 0, .slice (some ⟨W1.heap.size, 0, none⟩) 0 0] 33) = W2 at X0 ⊢
  generalize W1.heap.size + 1 = g6 at X0 ⊢
  generalize W1.heap.size = gH at X0 ⊢
  have ha0 := (blk_cell X0.out.f.a 0).trans (rfl : _ = some (Value.int .i64 3))
  have ha1 := (blk_cell X0.out.f.a 1).trans (rfl : _ = some (Value.int .i64 (i : Int)))
  have hs0 := (blk_cell X0.out.f.s 0).trans (rfl : _ = some (Value.int .i64 T))
  have hs1 := (blk_cell X0.out.f.s 1).trans (rfl : _ = some (Value.int .i64 E))
  have hs2 := (blk_cell X0.out.f.s 2).trans (rfl : _ = some (Value.slice An now.length cn))
  have hs3 := (blk_cell X0.out.f.s 3).trans (rfl : _ = some (Value.slice Ah held.length ch))
  have hs4 := (blk_cell X0.out.f.s 4).trans (rfl : _ = some (Value.slice Ap pins.length cp))
  go_upto_region 17 with (go_at_call 44; (try simp only [i64_w, hw]); (with_reducible refine (spec_l01In.calls (i : Int) 0 ((pins.length : Int) - 1) _ _ HW.out).mono ?_); rintro e w2' ⟨rfl, hd⟩; have X1 := Aside0.mk (X0.out.below hd.below); clear hd)
  clear X0 hs0 hs1 hs2 hs3 hs4 ha0 ha1
  have hs0 := (blk_cell X1.out.f.s 0).trans (rfl : _ = some (Value.int .i64 T))
  have hs1 := (blk_cell X1.out.f.s 1).trans (rfl : _ = some (Value.int .i64 E))
  have hs2 := (blk_cell X1.out.f.s 2).trans (rfl : _ = some (Value.slice An now.length cn))
  have hs3 := (blk_cell X1.out.f.s 3).trans (rfl : _ = some (Value.slice Ah held.length ch))
  have hs4 := (blk_cell X1.out.f.s 4).trans (rfl : _ = some (Value.slice Ap pins.length cp))
  go_upto_region 18 with (go_at_call 29; (with_reducible refine (own T E (HT.out.below X1.out.f.d) ?l1 ?l2 ?l3).mono ?_); (case l1 => have := H5.out; omega); (case l2 => have := H6.out; omega); (case l3 => have := H8.out; omega); rintro e w3 ⟨v2, v3, v4, rfl, ht, hB⟩; obtain ⟨B2, d2, e2⟩ := Kd.R_slice ht.n; obtain ⟨B3, d3, e3⟩ := Kd.R_slice ht.h; obtain ⟨B4, d4, e4⟩ := Kd.R_slice ht.p; generalize now.length = n3 at e2; generalize held.length = n4 at e3; generalize pins.length = n5 at e4; subst e2 e3 e4; have T3 := Aside0.mk ht; have D3 := Aside0.mk hB; have X3 := Aside0.mk (X1.out.below hB); clear ht hB)
  have BA := below_alloc (Below.refl w3.heap.size w3) (.cells #[.int .i64 T, .int .i64 E, .slice B2 n3 d2, .slice B3 n4 d3, .slice B4 n5 d4] 31)
  have S5 := Aside0.mk (St.start (Own.mk (blk_new w3 (.cells #[.int .i64 T, .int .i64 E, .slice B2 n3 d2, .slice B3 n4 d3, .slice B4 n5 d4] 31)) D3.out.size (T3.out.below BA)))
  have X5 := Aside0.mk (X3.out.below BA)
  have LT := Aside0.mk X1.out.lts
  have LB : Aside0 (w2'.heap.size ≤ (w3.alloc (.cells #[.int .i64 T, .int .i64 E, .slice B2 n3 d2, .slice B3 n4 d3, .slice B4 n5 d4] 31)).heap.size ∧ g6 < w3.heap.size ∧ gs < w3.heap.size ∧ ga < w3.heap.size) := ⟨Nat.le_trans D3.out.size BA.size, Nat.lt_of_lt_of_le LT.out.2.2.2.2.1 D3.out.size, Nat.lt_of_lt_of_le LT.out.1 D3.out.size, Nat.lt_of_lt_of_le LT.out.2.1 D3.out.size⟩
  clear BA T3 X3 X1 D3 hs0 hs1 hs2 hs3 hs4
  generalize w3.alloc (.cells #[.int .i64 T, .int .i64 E, .slice B2 n3 d2, .slice B3 n4 d3, .slice B4 n5 d4] 31) = W5 at S5 X5 LB ⊢
  generalize w3.heap.size = gb at S5 LB ⊢
  generalize w2'.heap.size = bq at S5 LT LB
  have PR := Aside0.mk (HT.out.below X5.out.f.d).p
  obtain ⟨gp, ep, _⟩ := elemI PR.out i H3.out
  subst ep
  have hnc := (Kd.R_reads' PR.out).2.1
  have p1 : (0 : Int) ≤ (i : Int) := Int.natCast_nonneg i
  have p2 : (i : Int) ≤ (cp : Int) := Int.ofNat_le.2 (Nat.le_trans (Nat.le_of_lt H3.out) hnc)
  have p3 : (0 : Int) ≤ (i : Int) + 1 := by omega
  have p5 : (i : Int) + 1 ≤ (pins.length : Int) := by have := H3.out; omega
  have p6 : (pins.length : Int) ≤ (cp : Int) := Int.ofNat_le.2 hnc
  have p4 : (i : Int) < (pins.length : Int) := Int.ofNat_lt.2 H3.out
  have p7 : (i : Int) + 1 ≤ (cp : Int) := Int.le_trans p5 p6
  have hwk : IntKind.i64.wrap ((i : Int) + 1) = (i : Int) + 1 := (i64_w _).trans hwi
  have hs4 := (blk_cell X5.out.f.s 4).trans (rfl : _ = some (Value.slice (some ⟨gp, 0, none⟩) pins.length cp))
  have ha1 := (blk_cell X5.out.f.a 1).trans (rfl : _ = some (Value.int .i64 (i : Int)))
  have hb4 := (blk_cell S5.out.o.box 4).trans (rfl : _ = some (Value.slice B4 n5 d4))
  have hd4 := (blk_cell (blk_alloc X5.out.f.s (.cells #[] 3)) 4).trans (rfl : _ = some (Value.slice (some ⟨gp, 0, none⟩) pins.length cp))
  have hd1 := (blk_cell (blk_alloc X5.out.f.a (.cells #[] 3)) 1).trans (rfl : _ = some (Value.int .i64 (i : Int)))
  have CP : Aside0 ((0 + i) * 8 ≤ 140737488355328 ∧ ((pins.take i).length + (pins.length - (i + 1))) * 8 ≤ 140737488355328) := ⟨by have := H8.out; have := H3.out; rw [List.length_take]; omega⟩
  go_cut [] (fun wx => ∃ vp', Aside0 (St W5 bq gb (.slice B2 n3 d2) (.slice B3 n4 d3) (.slice B4 n5 d4) wx T E (.slice B2 n3 d2) (.slice B3 n4 d3) vp' now held (pins.take i ++ pins.drop (i + 1))))
  case first =>
    by_cases hcp : cp = i + 1
    · have CDR : Aside0 (∀ W, Below W5.heap.size W5 W → Kd.C (Kd.int .i64) W (some ⟨gp, 0, none⟩) (pins.length - (i + 1)) (pins.drop (i + 1))) := ⟨fun W h => by
        have h_ := cDrop (Kd.R_below PR.out h) i H3.out
        rw [if_pos hcp] at h_
        exact h_⟩
      have hcpT := eq_true hcp
      clear hcp
      go_region_held3 (fun w' => w'.cell? ⟨gs, 4, none⟩ = some (.slice (some ⟨gp, 0, none⟩) pins.length cp) ∧ w'.cell? ⟨ga, 1, none⟩ = some (.int .i64 (i : Int))) (first | (refine ⟨?_, ?_⟩ <;> with_reducible assumption) | (refine ⟨?_, ?_⟩ <;> (rw [World.cell?_setCell_far _ _ _ _ (by assumption)]; with_reducible assumption)) | go_keep)
        (first
          | (refine Kd.R_append_rows_step (Kd.int .i64) (w0 := W5) W5.heap.size (by rfl) (.tmp 62) (.tmp 67) 22 3 (.int .i64 0) 8 rfl Try.underlying22 info3 rfl (by decide) (by omega) (.slice (some ⟨W5.heap.size, 0, none⟩) 0 0) [] (pins.take i) (some ⟨gp, 0, none⟩) i cp (fun _ => True) (fun _ => False) rfl rfl ?aO ?aR (fun _ _ h => h) (fun _ h => h.elim) ?aF ?aB ?aS ?aL ?_; (case aO => exact Room.empty (Kd.int .i64) 3 _ _ _ _ (by first | exact blk_new W5 (.cells #[] 3) | exact blk_drew (blk_new W5 (.cells #[] 3))) (Nat.le_refl _) trivial); (case aR => exact cTake (by (with_reducible repeat (first | apply Kd.R_drewN | apply Kd.R_drew | apply Kd.R_alloc)); exact PR.out) i (Nat.le_of_lt H3.out)); (case aF => exact (fun _ _ => trivial)); (case aB => repeat (first | exact Below.refl _ _ | apply below_alloc | apply pw_below_drewN | apply below_drew1)); (case aS => exact Below.size (by repeat (first | exact Below.refl W5.heap.size W5 | apply below_alloc | apply pw_below_drewN | apply below_drew1))); (case aL => simp only [List.length_nil]; exact CP.out.1); intro v8 w8 ho hB hg hat; obtain ⟨A8, f8, e8⟩ := Kd.R_slice ho; generalize List.length _ = n8 at e8; subst e8; have R8 := Aside0.mk ho; have B8 := Aside0.mk hB; clear ho hB hg hat; have hc4 := (blk_cell (blk_below X5.out.f.s B8.out) 4).trans (rfl : _ = some (Value.slice (some ⟨gp, 0, none⟩) pins.length cp)); have hc1 := (blk_cell (blk_below X5.out.f.a B8.out) 1).trans (rfl : _ = some (Value.int .i64 (i : Int))))
          | (refine Kd.R_append_rows_step (Kd.int .i64) (w0 := W5) W5.heap.size (by rfl) (.tmp 68) (.tmp 74) 22 3 (.int .i64 0) 8 rfl Try.underlying22 info3 rfl (by decide) (by omega) (.slice A8 n8 f8) (pins.take i) (pins.drop (i + 1)) (some ⟨gp, 0, none⟩) (pins.length - (i + 1)) (cp - (i + 1)) (fun _ => True) (fun _ => False) rfl rfl ?aO ?aR (fun _ _ h => h) (fun _ h => h.elim) ?aF ?aB ?aS ?aL ?_; (case aO => exact R8.out); (case aR => exact CDR.out _ B8.out); (case aF => exact (fun _ _ => trivial)); (case aB => exact B8.out); (case aS => exact B8.out.size); (case aL => exact CP.out.2); intro v9 w9 ho hB hg hat; obtain ⟨A9, f9, e9⟩ := Kd.R_slice ho; generalize List.length _ = n9 at e9; subst e9; have R9 := Aside0.mk ho; have B9 := Aside0.mk hB; clear ho hB hg hat; have hc4 := (blk_cell (blk_below X5.out.f.s B9.out) 4).trans (rfl : _ = some (Value.slice (some ⟨gp, 0, none⟩) pins.length cp)); have hc1 := (blk_cell (blk_below X5.out.f.a B9.out) 1).trans (rfl : _ = some (Value.int .i64 (i : Int))); have hz4 := (blk_cell (S5.out.o.below B9.out).box 4).trans (rfl : _ = some (Value.slice B4 n5 d4)); have hf4 := blk_frozen (S5.out.o.below B9.out).box 4; have hc4' := cell_far2 (v := .slice A9 n9 f9) hc4 (Nat.ne_of_lt LB.out.2.2.1) 4; have hc1' := cell_far2 (v := .slice A9 n9 f9) hc1 (Nat.ne_of_lt LB.out.2.2.2) 4))
      have SQ := Aside0.mk (S5.out.toPins (Kd.R_lower R9.out LB.out.1) (B9.out.mono LB.out.1) (Kept.of_below B9.out _) (fun k hk => .inr (Kd.R_base R9.out k hk)))
      all_goals (go_wp2_with fail; go_meet; first | exact ⟨_, SQ⟩ | exact ⟨_, ⟨SQ.out.below (Nat.le_trans LB.out.1 SQ.out.k.1) (below_drew (Below.refl _ _))⟩⟩)
    · have CDR : Aside0 (∀ W, Below W5.heap.size W5 W → Kd.C (Kd.int .i64) W (some ⟨gp, i + 1, none⟩) (pins.length - (i + 1)) (pins.drop (i + 1))) := ⟨fun W h => by
        have h_ := cDrop (Kd.R_below PR.out h) i H3.out
        rw [if_neg hcp] at h_
        exact h_⟩
      have hcpT := eq_false hcp
      clear hcp
      go_region_held3 (fun w' => w'.cell? ⟨gs, 4, none⟩ = some (.slice (some ⟨gp, 0, none⟩) pins.length cp) ∧ w'.cell? ⟨ga, 1, none⟩ = some (.int .i64 (i : Int))) (first | (refine ⟨?_, ?_⟩ <;> with_reducible assumption) | (refine ⟨?_, ?_⟩ <;> (rw [World.cell?_setCell_far _ _ _ _ (by assumption)]; with_reducible assumption)) | go_keep)
        (first
          | (refine Kd.R_append_rows_step (Kd.int .i64) (w0 := W5) W5.heap.size (by rfl) (.tmp 62) (.tmp 67) 22 3 (.int .i64 0) 8 rfl Try.underlying22 info3 rfl (by decide) (by omega) (.slice (some ⟨W5.heap.size, 0, none⟩) 0 0) [] (pins.take i) (some ⟨gp, 0, none⟩) i cp (fun _ => True) (fun _ => False) rfl rfl ?aO ?aR (fun _ _ h => h) (fun _ h => h.elim) ?aF ?aB ?aS ?aL ?_; (case aO => exact Room.empty (Kd.int .i64) 3 _ _ _ _ (by first | exact blk_new W5 (.cells #[] 3) | exact blk_drew (blk_new W5 (.cells #[] 3))) (Nat.le_refl _) trivial); (case aR => exact cTake (by (with_reducible repeat (first | apply Kd.R_drewN | apply Kd.R_drew | apply Kd.R_alloc)); exact PR.out) i (Nat.le_of_lt H3.out)); (case aF => exact (fun _ _ => trivial)); (case aB => repeat (first | exact Below.refl _ _ | apply below_alloc | apply pw_below_drewN | apply below_drew1)); (case aS => exact Below.size (by repeat (first | exact Below.refl W5.heap.size W5 | apply below_alloc | apply pw_below_drewN | apply below_drew1))); (case aL => simp only [List.length_nil]; exact CP.out.1); intro v8 w8 ho hB hg hat; obtain ⟨A8, f8, e8⟩ := Kd.R_slice ho; generalize List.length _ = n8 at e8; subst e8; have R8 := Aside0.mk ho; have B8 := Aside0.mk hB; clear ho hB hg hat; have hc4 := (blk_cell (blk_below X5.out.f.s B8.out) 4).trans (rfl : _ = some (Value.slice (some ⟨gp, 0, none⟩) pins.length cp)); have hc1 := (blk_cell (blk_below X5.out.f.a B8.out) 1).trans (rfl : _ = some (Value.int .i64 (i : Int))))
          | (refine Kd.R_append_rows_step (Kd.int .i64) (w0 := W5) W5.heap.size (by rfl) (.tmp 68) (.tmp 74) 22 3 (.int .i64 0) 8 rfl Try.underlying22 info3 rfl (by decide) (by omega) (.slice A8 n8 f8) (pins.take i) (pins.drop (i + 1)) (some ⟨gp, i + 1, none⟩) (pins.length - (i + 1)) (cp - (i + 1)) (fun _ => True) (fun _ => False) rfl rfl ?aO ?aR (fun _ _ h => h) (fun _ h => h.elim) ?aF ?aB ?aS ?aL ?_; (case aO => exact R8.out); (case aR => exact CDR.out _ B8.out); (case aF => exact (fun _ _ => trivial)); (case aB => exact B8.out); (case aS => exact B8.out.size); (case aL => exact CP.out.2); intro v9 w9 ho hB hg hat; obtain ⟨A9, f9, e9⟩ := Kd.R_slice ho; generalize List.length _ = n9 at e9; subst e9; have R9 := Aside0.mk ho; have B9 := Aside0.mk hB; clear ho hB hg hat; have hc4 := (blk_cell (blk_below X5.out.f.s B9.out) 4).trans (rfl : _ = some (Value.slice (some ⟨gp, 0, none⟩) pins.length cp)); have hc1 := (blk_cell (blk_below X5.out.f.a B9.out) 1).trans (rfl : _ = some (Value.int .i64 (i : Int))); have hz4 := (blk_cell (S5.out.o.below B9.out).box 4).trans (rfl : _ = some (Value.slice B4 n5 d4)); have hf4 := blk_frozen (S5.out.o.below B9.out).box 4; have hc4' := cell_far2 (v := .slice A9 n9 f9) hc4 (Nat.ne_of_lt LB.out.2.2.1) 4; have hc1' := cell_far2 (v := .slice A9 n9 f9) hc1 (Nat.ne_of_lt LB.out.2.2.2) 4))
      have SQ := Aside0.mk (S5.out.toPins (Kd.R_lower R9.out LB.out.1) (B9.out.mono LB.out.1) (Kept.of_below B9.out _) (fun k hk => .inr (Kd.R_base R9.out k hk)))
      all_goals (go_wp2_with fail; go_meet; first | exact ⟨_, SQ⟩ | exact ⟨_, ⟨SQ.out.below (Nat.le_trans LB.out.1 SQ.out.k.1) (below_drew (Below.refl _ _))⟩⟩)
  case rest =>
    obtain ⟨vp', SS⟩ := hcut
    have XX := Aside0.mk (X5.out.under LT.out SS.out.d)
    have LW : Aside0 (bq ≤ wc.heap.size) := ⟨Nat.le_trans LB.out.1 SS.out.k.1⟩
    have HPL : Aside0 ((pins.take i ++ pins.drop (i + 1)).length ≤ 4194304) := ⟨by rw [List.length_append, List.length_take, List.length_drop]; have := H8.out; omega⟩
    have HQ : Aside0 (b ≤ bq) := ⟨Nat.le_trans HBW.out LT.out.2.2.2.2.2.2⟩
    clear S5 X5 LB PR hs4 ha1 hb4 hd4 hd1 CP hnc p1 p2 p3 p4 p5 p6 p7 hwk hw hwi LT
    obtain ⟨A9, f9, e9⟩ := Kd.R_slice SS.out.o.r.p
    generalize List.length _ = n9 at e9
    subst e9
    generalize hpq : pins.take i ++ pins.drop (i + 1) = pq at SS HPL
    have hb0 := (blk_cell SS.out.o.box 0).trans (rfl : _ = some (Value.int .i64 T))
    have hb1 := (blk_cell SS.out.o.box 1).trans (rfl : _ = some (Value.int .i64 E))
    have hb2 := (blk_cell SS.out.o.box 2).trans (rfl : _ = some (Value.slice B2 n3 d2))
    have hb3 := (blk_cell SS.out.o.box 3).trans (rfl : _ = some (Value.slice B3 n4 d3))
    have hb4 := (blk_cell SS.out.o.box 4).trans (rfl : _ = some (Value.slice A9 n9 f9))
    have he0 := (blk_cell XX.out.r 0).trans (rfl : _ = some (Value.int .i64 0))
    have he1 := (blk_cell XX.out.r 1).trans (rfl : _ = some (Value.slice (some ⟨gH, 0, none⟩) 0 0))
    have hn45 : ¬ g4 = g5 := XX.out.f.n45
    have hn54 : ¬ g5 = g4 := fun e => XX.out.f.n45 e.symm
    have hn46 : ¬ g4 = g6 := XX.out.n46
    have hn64 : ¬ g6 = g4 := fun e => XX.out.n46 e.symm
    go_upto_region 19 with (fail)
    go_region_with (go_at_call 46; (with_reducible refine (Srel.rel bq _ T E (.slice B2 n3 d2) (.slice B3 n4 d3) (.slice A9 n9 f9) now held pq ?hb ?ht ?l1 ?l2 ?l3).mono ?_); (case hb => exact LW.out); (case ht => exact SS.out.o.r.below (by repeat (first | exact Below.refl _ _ | apply pw_below_drewN | apply below_drew1))); (case l1 => have := H5.out; omega); (case l2 => have := H6.out; omega); (case l3 => exact HPL.out); rintro e w6 ⟨u2, u3, u4, rfl, ht, hB⟩; obtain ⟨D2, f2, e2⟩ := Kd.R_slice ht.n; obtain ⟨D3, f3, e3⟩ := Kd.R_slice ht.h; obtain ⟨D4, f4, e4⟩ := Kd.R_slice ht.p; generalize List.length _ = m2 at e2; generalize List.length _ = m3 at e3; generalize List.length _ = m4 at e4; subst e2 e3 e4; have BV := Aside0.mk (undrew hB); have T6 := Aside0.mk ht; have X6 := Aside0.mk (XX.out.below BV.out); clear ht hB; have hi0 := (blk_cell X6.out.r 0).trans (rfl : _ = some (Value.int .i64 0)); have hi1 := (blk_cell X6.out.r 1).trans (rfl : _ = some (Value.slice (some ⟨gH, 0, none⟩) 0 0)); have hy0 := (blk_cell X6.out.f.r4 0).trans (rfl : _ = some (Value.int .i64 0)); have hy1 := (blk_cell X6.out.f.r4 1).trans (rfl : _ = some (Value.int .i64 0)); have hy2 := (blk_cell X6.out.f.r4 2).trans (rfl : _ = some (Value.slice none 0 0)); have hy3 := (blk_cell X6.out.f.r4 3).trans (rfl : _ = some (Value.slice none 0 0)); have hy4 := (blk_cell X6.out.f.r4 4).trans (rfl : _ = some (Value.slice none 0 0)); have hx0 := (blk_cell X6.out.f.r5 0).trans (rfl : _ = some (Value.int .i64 0)); have hx1 := (blk_cell X6.out.f.r5 1).trans (rfl : _ = some (Value.slice none 0 0)); have hfy := blk_frozen X6.out.f.r4; have hfx := blk_frozen X6.out.f.r5)
    all_goals (
      go_wp2_with fail
      obtain ⟨t1, t2, t3, t4, t5⟩ := X6.out.f.cb.told T E 0 (.slice D2 m2 f2) (.slice D3 m3 f3) (.slice D4 m4 f4) (.slice (some ⟨gH, 0, none⟩) 0 0)
      refine bodyPost_ret (results_cc rfl _ _ g4 g5 31 33 #[.int .i64 T, .int .i64 E, .slice D2 m2 f2, .slice D3 m3 f3, .slice D4 m4 f4] #[.int .i64 0, .slice (some ⟨gH, 0, none⟩) 0 0] (0, 0) (0, 0) _ _ rfl t1 Try.underlying31 rfl (by kernel_rfl) rfl t2 Try.underlying33 rfl (by kernel_rfl)) rfl ?_
      subst hpq
      have q1 := (X6.out.f.cb.seven (Trio.lower (b' := bq) T6.out LW.out) T E 0 (.slice D2 m2 f2) (.slice D3 m3 f3) (.slice D4 m4 f4) (.slice (some ⟨gH, 0, none⟩) 0 0)).lower HQ.out
      first
        | exact ⟨⟨_, _, _, _, rfl, q1, t5 X6.out.p, t3⟩⟩
        | exact ⟨⟨_, _, _, _, rfl, q1.below (below_drew (Below.refl _ _)), Kd.R_drew (t5 X6.out.p), below_drew t3⟩⟩)
end Go.Proofs.Ytcnkacbgcmnokaa.XR.Sstp
