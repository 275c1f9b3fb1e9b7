/- Several texts of the session in one. -/
import Derived.Test.YtcnkacbgcmnokaaStx
import Derived.Test.YtcnkacbgcmnokaaScokR
import Derived.Test.YtcnkacbgcmnokaaRunx
import Derived.Test.YtcnkacbgcmnokaaXR4
/- What the reference's step comes to, all kinds of acts. -/
namespace Go.Proofs.Ytcnkacbgcmnokaa.XR.Sstp
open Go Go.RowKit Go.Proofs.YtcnkacbgcmnokaaW.PrintWords Go.Proofs.YtcnkacbgcmnokaaW.PrintLast Go.Proofs.YtcnkacbgcmnokaaW.PrintMore Go.Proofs.Ytcnkacbgcmnokaa.XR Go.Proofs.Ytcnkacbgcmnokaa.XR.Room Go.Proofs.Ytcnkacbgcmnokaa.XR.Srel Go.Proofs.Ytcnkacbgcmnokaa.XR.Scom Go.Proofs.Ytcnkacbgcmnokaa.XR.Act
set_option linter.unusedVariables false
set_option linter.unusedSimpArgs false
open Classical in
noncomputable def f (k : Nat) (T E : Int) (now : List Int) (held : List S74) (pins : List Int) (kind n : Int) : Option Out :=
  if now.length ≤ 1048576 ∧ held.length ≤ 1048576 ∧ pins.length ≤ 1048576 then
    (if kind = 1 then (spec_l04Free.f k T E now held pins).bind fun fr => (spec_l01In.f n 0 64).bind fun ok =>
      if ok = true then (if (fr.length : Int) < n ∨ E = 1000000 then some ⟨E, now, held, pins, 7, []⟩ else if 0 ≤ n ∧ fr.length ≤ 1048576 then some ⟨wrap64 (E + 1), fr.take n.toNat, (mg E (held.length + now.length) held now).filter (kp (wrap64 (E + 1)) pins), pins, 0, fr.take n.toNat⟩ else none) else some ⟨E, now, held, pins, 4, []⟩
    else if kind = 2 then (if pins.length = 4 then some ⟨E, now, held, pins, 7, []⟩ else some ⟨E, now, held, pins ++ [E], 0, now⟩)
    else if kind = 3 then (spec_l01In.f n 0 ((pins.length : Int) - 1)).bind fun ok => if ok = true then (if 0 ≤ n ∧ n < (pins.length : Int) then some ⟨E, now, held.filter (kp E (pins.take n.toNat ++ pins.drop (n.toNat + 1))), pins.take n.toNat ++ pins.drop (n.toNat + 1), 0, []⟩ else none) else some ⟨E, now, held, pins, 5, []⟩
    else some ⟨E, now, held, pins, 3, []⟩)
  else none
theorem calls (k b : Nat) (w : World) (T E : Int) (vn vh vp : Value) (now : List Int) (held : List S74) (pins : List Int) (kind n : Int) (r : Out) (hb : b ≤ w.heap.size) (t : Trio b w vn vh vp now held pins) (h : f k T E now held pins kind n = some r) :
    Calls Try.prog 28 #[.agg #[.int .i64 T, .int .i64 E, vn, vh, vp], .agg #[.int .i64 kind, .int .i64 n]] w (Ret b w T r) := by
  unfold f at h
  obtain ⟨⟨h5, h6, h8⟩, h⟩ := Option.ite_none_right_eq_some.1 h
  by_cases k1 : kind = 1
  · subst k1
    rw [if_pos rfl] at h
    obtain ⟨fr, hf, h⟩ := Option.bind_eq_some_iff.1 h
    obtain ⟨ok, hw, h⟩ := Option.bind_eq_some_iff.1 h
    cases ok with
    | false =>
      rw [if_neg (by decide)] at h
      obtain rfl := Option.some.inj h
      exact commit b w T E vn vh vp now held pins n _ hb t (fun V hV => Scom.range k b V T E vn vh vp now held pins n fr (Nat.le_trans hb hV.size) (t.below hV) hf hw)
    | true =>
      rw [if_pos rfl] at h
      by_cases c : (fr.length : Int) < n ∨ E = 1000000
      · rw [if_pos c] at h
        obtain rfl := Option.some.inj h
        exact commit b w T E vn vh vp now held pins n _ hb t (fun V hV => Scom.full k b V T E vn vh vp now held pins n fr (Nat.le_trans hb hV.size) (t.below hV) hf hw c)
      · rw [if_neg c] at h
        obtain ⟨⟨h0, h7⟩, h⟩ := Option.ite_none_right_eq_some.1 h
        obtain rfl := Option.some.inj h
        obtain ⟨m, rfl⟩ : ∃ m : Nat, n = (m : Int) := ⟨n.toNat, by omega⟩
        rw [Int.toNat_natCast]
        exact commit b w T E vn vh vp now held pins _ _ hb t (fun V hV => Scom.com k b V T E vn vh vp now held pins m fr (Nat.le_trans hb hV.size) (t.below hV) hf hw (by omega) (by omega) h5 h6 h7 h8)
  rw [if_neg k1] at h
  by_cases k2 : kind = 2
  · subst k2
    rw [if_pos rfl] at h
    by_cases c : pins.length = 4
    · rw [if_pos c] at h
      obtain rfl := Option.some.inj h
      exact pinFull b w T E vn vh vp now held pins n hb t c
    · rw [if_neg c] at h
      obtain rfl := Option.some.inj h
      exact pin b w T E vn vh vp now held pins n hb t c h5 h6 h8
  rw [if_neg k2] at h
  by_cases k3 : kind = 3
  · subst k3
    rw [if_pos rfl] at h
    obtain ⟨ok, hw, h⟩ := Option.bind_eq_some_iff.1 h
    cases ok with
    | false =>
      rw [if_neg (by decide)] at h
      obtain rfl := Option.some.inj h
      exact unpinNone b w T E vn vh vp now held pins n hb t h8 hw
    | true =>
      rw [if_pos rfl] at h
      obtain ⟨⟨h0, h1⟩, h⟩ := Option.ite_none_right_eq_some.1 h
      obtain rfl := Option.some.inj h
      obtain ⟨i, rfl⟩ : ∃ i : Nat, n = (i : Int) := ⟨n.toNat, by omega⟩
      rw [Int.toNat_natCast]
      exact unpin b w T E vn vh vp now held pins i hb t hw (by omega) h5 h6 h8
  rw [if_neg k3] at h
  obtain rfl := Option.some.inj h
  exact other b w T E vn vh vp now held pins kind n hb t k1 k2 k3
end Go.Proofs.Ytcnkacbgcmnokaa.XR.Sstp
/- Several texts of the session in one. -/
/- The reference's SpaceRun: a walk. -/
namespace Go.Proofs.Ytcnkacbgcmnokaa.XR.Srun
open Go Go.RowKit Go.Proofs.YtcnkacbgcmnokaaW.PrintWords Go.Proofs.YtcnkacbgcmnokaaW.PrintLast Go.Proofs.YtcnkacbgcmnokaaW.PrintMore Go.Proofs.Ytcnkacbgcmnokaa.XR Go.Proofs.Ytcnkacbgcmnokaa.XR.Room Go.Proofs.Ytcnkacbgcmnokaa.XR.Fram
open Go.Proofs.Ytcnkacbgcmnokaa.XR.Act (Out)
open Go.Proofs.Ytcnkacbgcmnokaa.XR.Irun (steps Res run info33)
set_option linter.unusedVariables false
set_option linter.unusedSimpArgs false
/-- In the middle of the run: the result's box, the space in its box, the replies so far. -/
structure Rn (w : World) (g4 g7 : Nat) (T : Int) (o : Out) (vn vh vp v9 : Value) (ds : List S33) (W : World) : Prop where
  d : Below w.heap.size w W
  b4 : W.heap[g4]? = some zS
  l4 : w.heap.size ≤ g4
  n47 : g4 ≠ g7
  b7 : W.heap[g7]? = some (.cells #[.int .i64 T, .int .i64 o.E, vn, vh, vp] 31 (0, 0))
  l7 : w.heap.size ≤ g7
  t : Trio w.heap.size W vn vh vp o.now o.held o.pins
  s : k33.R 33 W w.heap.size (fun _ => True) v9 ds
/-- What a step hands back. -/
def JR (b : Nat) (o : Out) (u2 u3 u4 u5 : Value) (W : World) : Prop := Trio b W u2 u3 u4 o.now o.held o.pins ∧ (Kd.int .i64).R 3 W b (fun _ => True) u5 o.pages
theorem okJ {p : Regc.Dt} {b : Nat} {o : Out} (h1 : ∀ v W W', p.J1 v W → Below W.heap.size W W' → p.J1 v W') (h3 : p.J3 = JR b o) : Regc.Ok p where
  s1 := h1
  s3 := fun u W W' h hb => by
    unfold Regc.Dt.J at h ⊢; rw [h3] at h ⊢
    exact ⟨h.1.below hb, Kd.R_below h.2 hb⟩
  t3 := fun u W g t cs h hb ht j v => by
    unfold Regc.Dt.J at h ⊢; rw [h3] at h ⊢
    rcases ht with rfl | rfl
    · exact ⟨h.1.set hb (by decide) (by decide) j v, Kd.R_set h.2 hb (by decide) j v⟩
    · exact ⟨h.1.set hb (by decide) (by decide) j v, Kd.R_set h.2 hb (by decide) j v⟩
  o3 := fun u W h => by
    unfold Regc.Dt.J at h; rw [h3] at h
    obtain ⟨_, _, e2⟩ := Kd.R_slice h.1.n
    obtain ⟨_, _, e3⟩ := Kd.R_slice h.1.h
    obtain ⟨_, _, e4⟩ := Kd.R_slice h.1.p
    obtain ⟨_, _, e5⟩ := Kd.R_slice h.2
    rw [e2, e3, e4, e5]; exact ⟨rfl, rfl, rfl, rfl⟩
section
variable {w W W' : World} {g4 g7 : Nat} {T : Int} {o r : Out} {vn vh vp v9 v' vr : Value} {ds : List S33}
theorem Rn.below (R : Rn w g4 g7 T o vn vh vp v9 ds W) (h : Below W.heap.size W W') : Rn w g4 g7 T o vn vh vp v9 ds W' :=
  ⟨below_step R.d h, blk_below R.b4 h, R.l4, R.n47, blk_below R.b7 h, R.l7, R.t.below h, Kd.R_below R.s h⟩
/-- The next space is laid into the box. -/
theorem Rn.next {u2 u3 u4 : Value} (R : Rn w g4 g7 T o vn vh vp v9 ds W) (t : Trio w.heap.size W u2 u3 u4 r.now r.held r.pins) : Rn w g4 g7 T r u2 u3 u4 v9 ds (((((W.setCell ⟨g7, 0, none⟩ (.int .i64 T)).setCell ⟨g7, 1, none⟩ (.int .i64 r.E)).setCell ⟨g7, 2, none⟩ u2).setCell ⟨g7, 3, none⟩ u3).setCell ⟨g7, 4, none⟩ u4) := by
  have b1 := blk_put (cs' := #[.int .i64 T, .int .i64 o.E, vn, vh, vp]) R.b7 0 (.int .i64 T) rfl
  have b2 := blk_put (cs' := #[.int .i64 T, .int .i64 r.E, vn, vh, vp]) b1 1 (.int .i64 r.E) rfl
  have b3 := blk_put (cs' := #[.int .i64 T, .int .i64 r.E, u2, vh, vp]) b2 2 u2 rfl
  have b4 := blk_put (cs' := #[.int .i64 T, .int .i64 r.E, u2, u3, vp]) b3 3 u3 rfl
  have b5 := blk_put (cs' := #[.int .i64 T, .int .i64 r.E, u2, u3, u4]) b4 4 u4 rfl
  have s1 := Kd.R_set R.s R.b7 (by decide) 0 (.int .i64 T)
  have s2 := Kd.R_set s1 b1 (by decide) 1 (.int .i64 r.E)
  have s3 := Kd.R_set s2 b2 (by decide) 2 u2
  have s4 := Kd.R_set s3 b3 (by decide) 3 u3
  exact ⟨five_below R.d R.l7, blk_far (blk_far (blk_far (blk_far (blk_far R.b4 (p := ⟨g7, 0, none⟩) R.n47 _) (p := ⟨g7, 1, none⟩) R.n47 _) (p := ⟨g7, 2, none⟩) R.n47 _) (p := ⟨g7, 3, none⟩) R.n47 _) (p := ⟨g7, 4, none⟩) R.n47 _, R.l4, R.n47, b5, R.l7,
    ((((t.set R.b7 (by decide) (by decide) 0 _).set b1 (by decide) (by decide) 1 _).set b2 (by decide) (by decide) 2 _).set b3 (by decide) (by decide) 3 _).set b4 (by decide) (by decide) 4 _, Kd.R_set s4 b4 (by decide) 4 u4⟩
/-- Behind an append. -/
theorem Rn.push {p : S33} (R : Rn w g4 g7 T o vn vh vp v9 ds W) (hs : k33.R 33 W' w.heap.size (fun _ => True) v' (ds ++ [p])) (hb : Below w.heap.size w W') (hg : W.grownBy W' v9.ownBlock) : Rn w g4 g7 T o vn vh vp v' (ds ++ [p]) W' := by
  have ty := Kd.R_typed R.s
  exact ⟨hb, blk_grown R.b4 hg (Kd.R_ne R.s R.b4 (by decide)), R.l4, R.n47, blk_grown R.b7 hg (Kd.R_ne R.s R.b7 (by decide)), R.l7, ⟨Kd.R_over' R.t.n ty (by decide) hg, Kd.R_over' R.t.h ty (by decide) hg, Kd.R_over' R.t.p ty (by decide) hg⟩, hs⟩
/-- Five stores elsewhere. -/
theorem R33 {b0 h : Nat} {ok : Nat → Prop} {a b : Int} {u v x w0 : Value} {l : List S33} (t : k33.R 33 W b0 ok w0 l) (r : W.heap[h]? = some zS) :
    k33.R 33 (((((W.setCell ⟨h, 0, none⟩ (.int .i64 a)).setCell ⟨h, 1, none⟩ (.int .i64 b)).setCell ⟨h, 2, none⟩ u).setCell ⟨h, 3, none⟩ v).setCell ⟨h, 4, none⟩ x) b0 ok w0 l :=
  Kd.R_set (Kd.R_set (Kd.R_set (Kd.R_set (Kd.R_set t r (by decide) 0 _) (blk_put r 0 _ rfl) (by decide) 1 _) (blk_put (blk_put r 0 _ rfl) 1 _ rfl) (by decide) 2 _) (blk_put (blk_put (blk_put r 0 _ rfl) 1 _ rfl) 2 _ rfl) (by decide) 3 _) (blk_put (blk_put (blk_put (blk_put r 0 _ rfl) 1 _ rfl) 2 _ rfl) 3 _ rfl) (by decide) 4 _
end
/-- Five stores into a box leave a row of numbers, and another box. -/
theorem five_int {W : World} {b0 g : Nat} {ok : Nat → Prop} {a0 a1 a2 a3 a4 c0 c1 c2 c3 c4 w0 : Value} {l : List Int} (t : (Kd.int .i64).R 3 W b0 ok w0 l) (r : W.heap[g]? = some (.cells #[a0, a1, a2, a3, a4] 31 (0, 0))) :
    (Kd.int .i64).R 3 (((((W.setCell ⟨g, 0, none⟩ c0).setCell ⟨g, 1, none⟩ c1).setCell ⟨g, 2, none⟩ c2).setCell ⟨g, 3, none⟩ c3).setCell ⟨g, 4, none⟩ c4) b0 ok w0 l :=
  Kd.R_set (Kd.R_set (Kd.R_set (Kd.R_set (Kd.R_set t r (by decide) 0 _) (blk_set r 0 _) (by decide) 1 _) (blk_set (blk_set r 0 _) 1 _) (by decide) 2 _) (blk_set (blk_set (blk_set r 0 _) 1 _) 2 _) (by decide) 3 _) (blk_set (blk_set (blk_set (blk_set r 0 _) 1 _) 2 _) 3 _) (by decide) 4 _
theorem five_box {W : World} {g h t : Nat} {cs : Array Value} {c0 c1 c2 c3 c4 : Value} (r : W.heap[h]? = some (.cells cs t (0, 0))) (n : h ≠ g) :
    (((((W.setCell ⟨g, 0, none⟩ c0).setCell ⟨g, 1, none⟩ c1).setCell ⟨g, 2, none⟩ c2).setCell ⟨g, 3, none⟩ c3).setCell ⟨g, 4, none⟩ c4).heap[h]? = some (.cells cs t (0, 0)) :=
  blk_far (blk_far (blk_far (blk_far (blk_far r (p := ⟨g, 0, none⟩) n _) (p := ⟨g, 1, none⟩) n _) (p := ⟨g, 2, none⟩) n _) (p := ⟨g, 3, none⟩) n _) (p := ⟨g, 4, none⟩) n _
theorem own_is (T E : Int) (now : List Int) (held : List S74) (pins : List Int) (h1 : now.length ≤ 1048576) (h2 : held.length ≤ 1048576) (h3 : pins.length ≤ 1048576) : spec_l04Own.f T E now held pins = some (T, E, now, held, pins) := by
  unfold spec_l04Own.f
  simp only [Option.bind_some, List.length_nil, Nat.zero_add, List.nil_append]
  rw [if_pos (by omega), if_pos (by omega), if_pos (by omega)]
theorem noneS {w W : World} {g : Nat} (d : Below w.heap.size w W) (b : W.heap[g]? = some (.cells #[] 33 (0, 0))) (l : w.heap.size ≤ g) : Trio w.heap.size W (.slice none 0 0) (.slice none 0 0) (.slice none 0 0) [] [] [] ∧ k33.R 33 W w.heap.size (fun _ => True) (.slice (some ⟨g, 0, none⟩) 0 0) [] ∧ Below w.heap.size w W :=
  ⟨⟨Kd.R_nil _ _ _ _ _, Kd.R_nil _ _ _ _ _, Kd.R_nil _ _ _ _ _⟩, Room.empty _ _ _ _ _ _ b l trivial, d⟩
set_option maxHeartbeats 8000000 in
set_option maxRecDepth 100000 in
theorem calls (k : Nat) (total : Int) (A : Option Addr) (c : Nat) (l : List S37) (r : Res) (w : World) (hr : Kd.C k37 w A l.length l) (hc : l.length ≤ c) (h : run spec_NewSpace.f (fun T o a => Sstp.f k T o.E o.now o.held o.pins a.f0 a.f1) total l = some r) (hl : r.o.now.length ≤ 1048576 ∧ r.o.held.length ≤ 1048576 ∧ r.o.pins.length ≤ 1048576) :
    Calls Try.prog 17 #[.int .i64 total, .slice A l.length c] w fun e w' => ∃ vn vh vp vr : Value, e = .returned (.tuple #[.agg #[.int .i64 r.T, .int .i64 r.o.E, vn, vh, vp], vr, .int .i64 r.err]) ∧ Trio w.heap.size w' vn vh vp r.o.now r.o.held r.o.pins ∧ k33.R 33 w' w.heap.size (fun _ => True) vr r.rs ∧ Below w.heap.size w w' := by
  have hu31 := Try.underlying31
  have hu33 := Try.underlying33
  have hu37 := Try.underlying37
  unfold run at h
  have HR := Aside0.mk hr
  clear hr
  have BZ : Aside0 (Below w.heap.size w (w.alloc zS)) := ⟨below_alloc (Below.refl _ _) _⟩
  have Z4 : Aside0 ((w.alloc zS).heap[w.heap.size]? = some zS) := ⟨blk_new _ _⟩
  by_cases c0 : (4096 : Int) < (l.length : Int)
  · rw [if_pos c0] at h
    obtain rfl := Option.some.inj h
    have cc : decide ((l.length : Int) > 4096) = true := decide_eq_true c0
    have cc2 : decide ((4096 : Int) < (l.length : Int)) = true := decide_eq_true c0
    clear h c0
    go_enter Try.func17, Try.ntmps17
    go_wp2
    have z4 := blk_alloc Z4.out (.cells #[] 33)
    have d4 := below_alloc BZ.out (.cells #[] 33)
    have n4 := blk_new (w.alloc zS) (.cells #[] 33)
    rw [World.size_alloc] at n4
    refine bodyPost_ret (Irun.results_ctt rfl _ _ _ 31 #[.int .i64 0, .int .i64 0, .slice none 0 0, .slice none 0 0, .slice none 0 0] (0, 0) _ rfl z4 Try.underlying31 rfl (by kernel_rfl)) rfl ?_
    exact ⟨_, _, _, _, rfl, noneS d4 n4 (Nat.le_succ _)⟩
  rw [if_neg c0] at h
  obtain ⟨s, hn, h⟩ := Option.bind_eq_some_iff.1 h
  obtain ⟨T, E, now, held, pins, code⟩ := s
  dsimp only at h
  have HNW := Aside0.mk hn
  have cc : decide ((l.length : Int) > 4096) = false := decide_eq_false c0
  have cc2 : decide ((4096 : Int) < (l.length : Int)) = false := decide_eq_false c0
  have HH := Aside0.mk h
  clear hn c0 h
  go_enter Try.func17, Try.ntmps17
  go_upto_region 3 with (fail)
  obtain ⟨g4, hg4⟩ : ∃ g4, g4 = w.heap.size := ⟨_, rfl⟩
  generalize w.alloc zS = W1 at BZ Z4 ⊢
  rw [show (Value.pointer (some ⟨w.heap.size, 0, none⟩)) = .pointer (some ⟨g4, 0, none⟩) by rw [hg4]]
  rw [← hg4] at Z4
  have G4 := Aside0.mk hg4
  clear hg4 cc cc2
  go_upto_region 4 with (go_at_call 41; (with_reducible refine (spec_NewSpace.calls total T E now held pins code W1 HNW.out).mono ?_); rintro e W2 ⟨v2, v3, v4, rfl, r2, r3, r4, hB⟩; obtain ⟨B2, d2, rfl⟩ := Kd.R_slice r2; obtain ⟨B3, d3, rfl⟩ := Kd.R_slice r3; obtain ⟨B4, d4, rfl⟩ := Kd.R_slice r4; have T2 : Aside0 (Trio W1.heap.size W2 (.slice B2 now.length d2) (.slice B3 held.length d3) (.slice B4 pins.length d4) now held pins) := ⟨⟨r2, r3, Kd.R_mono r4 (fun _ _ => trivial)⟩⟩; have B2_ := Aside0.mk hB; clear r2 r3 r4 hB)
  have R3 : Aside0 (Rn w g4 W2.heap.size T ⟨E, now, held, pins, 0, []⟩ (.slice B2 now.length d2) (.slice B3 held.length d3) (.slice B4 pins.length d4) (.slice none 0 0) [] (W2.alloc (.cells #[.int .i64 T, .int .i64 E, .slice B2 now.length d2, .slice B3 held.length d3, .slice B4 pins.length d4] 31))) :=
    ⟨⟨below_alloc (below_step BZ.out B2_.out) _, blk_alloc (blk_below Z4.out B2_.out) _, by rw [G4.out]; exact Nat.le_refl _, Nat.ne_of_lt (blk_lt (blk_below Z4.out B2_.out)), blk_new _ _, Nat.le_trans BZ.out.size B2_.out.size, (T2.out.below (below_alloc (Below.refl _ _) _)).lower BZ.out.size, Kd.R_nil _ _ _ _ _⟩⟩
  clear T2 B2_ BZ Z4 HNW
  generalize W2.alloc (.cells #[.int .i64 T, .int .i64 E, .slice B2 now.length d2, .slice B3 held.length d3, .slice B4 pins.length d4] 31) = W3 at R3 ⊢
  generalize W2.heap.size = g7 at R3 ⊢
  have R3n := Aside0.mk (R3.out.below (below_alloc (Below.refl _ _) (.cells #[] 33)))
  have N3 := Aside0.mk (blk_new W3 (.cells #[] 33))
  have z0 := (blk_cell R3n.out.b4 0).trans (rfl : _ = some (Value.int .i64 0))
  have z1 := (blk_cell R3n.out.b4 1).trans (rfl : _ = some (Value.int .i64 0))
  have z2 := (blk_cell R3n.out.b4 2).trans (rfl : _ = some (Value.slice none 0 0))
  have z3 := (blk_cell R3n.out.b4 3).trans (rfl : _ = some (Value.slice none 0 0))
  have z4 := (blk_cell R3n.out.b4 4).trans (rfl : _ = some (Value.slice none 0 0))
  have zf := blk_frozen R3n.out.b4
  have far5 : Aside0 (∀ (u v q : Value) (a b : Int), (((((((W3.alloc (.cells #[] 33)).setCell ⟨g4, 0, none⟩ (.int .i64 a)).setCell ⟨g4, 1, none⟩ (.int .i64 b)).setCell ⟨g4, 2, none⟩ u).setCell ⟨g4, 3, none⟩ v).setCell ⟨g4, 4, none⟩ q).heap[W3.heap.size]? = some (.cells #[] 33 (0, 0)))) := ⟨fun u v q a b => by
    have hne : W3.heap.size ≠ g4 := Nat.ne_of_gt (blk_lt R3.out.b4)
    exact blk_far (blk_far (blk_far (blk_far (blk_far N3.out (p := ⟨g4, 0, none⟩) hne _) (p := ⟨g4, 1, none⟩) hne _) (p := ⟨g4, 2, none⟩) hne _) (p := ⟨g4, 3, none⟩) hne _) (p := ⟨g4, 4, none⟩) hne _⟩
  by_cases c1 : code = 0
  rotate_left
  · have h := HH.out
    rw [if_neg c1] at h
    obtain rfl := Option.some.inj h
    have ct : (code != 0) = true := bne_iff_ne.mpr c1
    clear h c1 HH
    go_wp2
    refine bodyPost_ret (Irun.results_ctt rfl _ _ g4 31 #[.int .i64 0, .int .i64 0, .slice none 0 0, .slice none 0 0, .slice none 0 0] (0, 0) _ rfl (put5 R3n.out.b4) Try.underlying31 rfl (by kernel_rfl)) rfl ?_
    exact ⟨_, _, _, _, rfl, noneS (five_below R3n.out.d R3n.out.l4) (far5.out _ _ _ _ _) R3.out.d.size⟩
  subst c1
  by_cases c2 : (200 : Int) < (l.length : Int)
  · have h := HH.out
    rw [if_pos rfl, if_pos c2] at h
    obtain rfl := Option.some.inj h
    have ct : decide ((l.length : Int) > 200) = true := decide_eq_true c2
    have ct2 : decide ((200 : Int) < (l.length : Int)) = true := decide_eq_true c2
    clear h c2 HH
    go_wp2
    refine bodyPost_ret (Irun.results_ctt rfl _ _ g4 31 #[.int .i64 0, .int .i64 0, .slice none 0 0, .slice none 0 0, .slice none 0 0] (0, 0) _ rfl (put5 R3n.out.b4) Try.underlying31 rfl (by kernel_rfl)) rfl ?_
    exact ⟨_, _, _, _, rfl, noneS (five_below R3n.out.d R3n.out.l4) (far5.out _ _ _ _ _) R3.out.d.size⟩
  have h := HH.out
  rw [if_pos rfl, if_neg c2] at h
  obtain ⟨⟨o', rs⟩, hz, h⟩ := Option.bind_eq_some_iff.1 h
  obtain rfl := Option.some.inj h
  have HZ := Aside0.mk hz
  have HN := Aside0.mk c2
  have ct : decide ((l.length : Int) > 200) = false := decide_eq_false c2
  have ct2 : decide ((200 : Int) < (l.length : Int)) = false := decide_eq_false c2
  have HL := Aside0.mk hl
  clear h hz c2 HH z0 z1 z2 z3 z4 zf far5 hl
  go_upto_region 9 with (fail)
  have R4 : Aside0 (Rn w g4 g7 T ⟨E, now, held, pins, 0, []⟩ (.slice B2 now.length d2) (.slice B3 held.length d3) (.slice B4 pins.length d4) (.slice (some ⟨W3.heap.size, 0, none⟩) 0 0) [] (W3.alloc (.cells #[] 33))) := ⟨by
    have R := R3n.out
    exact ⟨R.d, R.b4, R.l4, R.n47, R.b7, R.l7, R.t, Room.empty _ _ _ _ _ _ N3.out R3.out.d.size trivial⟩⟩
  clear R3 R3n N3 ct ct2
  generalize W3.alloc (.cells #[] 33) = W4 at R4 ⊢
  generalize Value.slice (some ⟨W3.heap.size, 0, none⟩) 0 0 = v9 at R4 ⊢
  go_wp2
  go_loopg [10, 9] l.length (fun gg s10 s9 wr => ∃ (i : Nat) (o : Out) (ds : List S33) (rs' : List S33) (vn vh vp : Value), s10 = .int .i64 (i : Int) ∧ Aside0 (i ≤ l.length ∧ l.length ≤ i + gg ∧ ds.length = i ∧ ds ++ rs' = rs) ∧ Aside0 (steps (fun o a => Sstp.f k T o.E o.now o.held o.pins a.f0 a.f1) (l.drop i) o = some (o', rs')) ∧ Aside0 (Rn w g4 g7 T o vn vh vp s9 ds wr))
  case atStart => exact ⟨0, _, [], rs, _, _, _, rfl, ⟨Nat.zero_le _, by omega, rfl, rfl⟩, HZ, R4⟩
  case round =>
    clear R4 HZ
    obtain ⟨i, o, ds, rs', vn, vh, vp, rfl, HI, HS, R⟩ := hrel
    by_cases hin : i < l.length
    · have cl : decide ((i : Int) < (l.length : Int)) = true := decide_eq_true (Int.ofNat_lt.2 hin)
      have p1 : (0 : Int) ≤ (i : Int) := Int.natCast_nonneg i
      have p2 : (i : Int) < (l.length : Int) := Int.ofNat_lt.2 hin
      have hw : wrap64 ((i : Int) + 1) = ((i + 1 : Nat) : Int) := by have := HN.out; unfold wrap64; omega
      obtain ⟨ad, e0, hx0, hx1⟩ := at_T37 HR.out (i : Int) p1 p2
      cases e0
      rw [Int.toNat_natCast] at hx0 hx1
      have hd := HS.out
      rw [List.drop_eq_getElem_cons hin, steps] at hd
      obtain ⟨r, hf, hd⟩ := Option.bind_eq_some_iff.1 hd
      obtain ⟨⟨o2, rs2⟩, hs2, hd⟩ := Option.bind_eq_some_iff.1 hd
      have hd := Option.some.inj hd
      have ex : l[i] = rd_T37 l (i : Int) := by unfold rd_T37; rw [Int.toNat_natCast, List.getD_eq_getElem?_getD, List.getElem?_eq_getElem hin]; rfl
      rw [ex] at hf
      have HF := Aside0.mk hf
      have HD := Aside0.mk (And.intro hs2 hd)
      have HQ : Aside0 ((ds.length + 1) * 32 ≤ 140737488355328) := ⟨by have := HI.out; have := HN.out; omega⟩
      have HP := Aside0.mk (And.intro p1 p2)
      clear hf hd hs2 ex
      generalize rd_T37 l (i : Int) = x at hx0 hx1 HF
      have YB : Aside0 (∀ W, Below w.heap.size w W → W.cell? (ad.add (i * 2)) = some (.int .i64 x.f0) ∧ W.cell? ⟨(ad.add (i * 2)).block, (ad.add (i * 2)).off + 1, none⟩ = some (.int .i64 x.f1)) := ⟨fun W d => ⟨(d.cell (World.block_lt_of_cell? w _ hx0)).trans hx0, (d.cell (World.block_lt_of_cell? w _ hx1)).trans hx1⟩⟩
      clear hx0 hx1
      go_upto_region 12 with (fail)
      refine Regc.whole (p := ⟨T, o.E, vn, vh, vp, x.f0, x.f1, T, r.E, r.code, 0, fun _ _ => True, JR w.heap.size r⟩) (ga := g7) (ad := ad) (i := i) (n := l.length) (c := c) ⟨?ok, by rfl, by rfl, by rfl, by rfl, HP.out.1, HP.out.2, ?ya, ?yb, ?c2, ?hp, ?hq⟩
      case ok => exact okJ (fun _ _ _ _ _ => trivial) rfl
      case ya => exact fun W d => by have b := blk_below R.out.b7 d; exact ⟨(blk_cell b 0).trans rfl, (blk_cell b 1).trans rfl, (blk_cell b 2).trans rfl, (blk_cell b 3).trans rfl, (blk_cell b 4).trans rfl⟩
      case yb => exact fun W d => YB.out W (below_step R.out.d d)
      case c2 =>
        intro W d
        have R2 := R.out.below d
        refine (Sstp.calls k w.heap.size W T o.E vn vh vp o.now o.held o.pins x.f0 x.f1 r R2.d.size R2.t HF.out).mono ?_
        rintro e W' ⟨u2, u3, u4, u5, rfl, ht, hr, hB⟩
        exact ⟨⟨u2, u3, u4, u5⟩, rfl, ⟨ht, Kd.R_lower hr R2.d.size⟩, hB⟩
      case hp => exact fun _ _ _ _ _ h => h
      case hq =>
        rintro z ⟨u2, u3, u4, u5⟩ g11 g12 W5 d5 j5 l11 l12 b11 b12
        simp only [List.setIfInBounds_toArray, List.set_cons_zero, List.set_cons_succ]
        obtain ⟨jt, jr⟩ : JR w.heap.size r u2 u3 u4 u5 W5 := j5
        have R5 := Aside0.mk (R.out.below d5)
        have N7 : Aside0 (g12 ≠ g7) := ⟨fun e => by rw [e] at l12; exact Nat.lt_irrefl _ (Nat.lt_of_lt_of_le (blk_lt R.out.b7) l12)⟩
        obtain ⟨X2, y2, e2⟩ := Kd.R_slice jt.n
        obtain ⟨X3, y3, e3⟩ := Kd.R_slice jt.h
        obtain ⟨X4, y4, e4⟩ := Kd.R_slice jt.p
        obtain ⟨X5, y5, e5⟩ := Kd.R_slice jr
        generalize List.length _ = m2 at e2
        generalize List.length _ = m3 at e3
        generalize List.length _ = m4 at e4
        generalize List.length _ = m5 at e5
        subst e2 e3 e4 e5
        have JT := Aside0.mk jt
        have JR_ := Aside0.mk jr
        have B12 := Aside0.mk b12
        have c0 := (blk_cell b11 0).trans (rfl : _ = some (Value.int .i64 T))
        have c1 := (blk_cell b11 1).trans (rfl : _ = some (Value.int .i64 r.E))
        have c2 := (blk_cell b11 2).trans (rfl : _ = some (Value.slice X2 m2 y2))
        have c3 := (blk_cell b11 3).trans (rfl : _ = some (Value.slice X3 m3 y3))
        have c4 := (blk_cell b11 4).trans (rfl : _ = some (Value.slice X4 m4 y4))
        have t0 := (blk_cell R5.out.b7 0).trans (rfl : _ = some (Value.int .i64 T))
        have t1 := (blk_cell R5.out.b7 1).trans (rfl : _ = some (Value.int .i64 o.E))
        have t2 := (blk_cell R5.out.b7 2).trans (rfl : _ = some vn)
        have t3 := (blk_cell R5.out.b7 3).trans (rfl : _ = some vh)
        have t4 := (blk_cell R5.out.b7 4).trans (rfl : _ = some vp)
        have tf := blk_frozen R5.out.b7
        clear jt jr b11 b12 d5
        go_upto_region 14 with (fail)
        have R6 := Aside0.mk (R5.out.next JT.out)
        have J6 := Aside0.mk (five_int (c0 := .int .i64 T) (c1 := .int .i64 r.E) (c2 := .slice X2 m2 y2) (c3 := .slice X3 m3 y3) (c4 := .slice X4 m4 y4) JR_.out R5.out.b7)
        have B6 := Aside0.mk (five_box (c0 := .int .i64 T) (c1 := .int .i64 r.E) (c2 := .slice X2 m2 y2) (c3 := .slice X3 m3 y3) (c4 := .slice X4 m4 y4) B12.out N7.out)
        clear c0 c1 c2 c3 c4 t0 t1 t2 t3 t4 tf R5 JR_ JT B12 N7 R
        generalize ((((W5.setCell ⟨g7, 0, none⟩ (.int .i64 T)).setCell ⟨g7, 1, none⟩ (.int .i64 r.E)).setCell ⟨g7, 2, none⟩ (.slice X2 m2 y2)).setCell ⟨g7, 3, none⟩ (.slice X3 m3 y3)).setCell ⟨g7, 4, none⟩ (.slice X4 m4 y4) = W6 at R6 J6 B6 ⊢
        have c0 := (blk_cell B6.out 0).trans (rfl : _ = some (Value.int .i64 r.code))
        have c1 := (blk_cell B6.out 1).trans (rfl : _ = some (Value.slice X5 m5 y5))
        go_wp2_with ((with_reducible refine gate_builtin (b := .append) (xs := #[.tmp 50, .tmp 52]) rfl ?_); at_builtin; refine Kd.R_append k33 (w0 := w) w.heap.size rfl (.tmp 50) (.tmp 52) 46 33 (.agg #[.int .i64 0, .slice none 0 0]) 32 rfl Try.underlying46 info33 rfl (by decide) (by omega) _ ds (⟨r.code, r.pages⟩ : S33) [.int .i64 r.code, .slice X5 m5 y5] (fun _ => True) (fun k => some k = (Value.slice X5 m5 y5).ownBlock) rfl rfl (k33_mkM _ _ _ ⟨r.code, r.pages⟩ (Kd.R_reok rfl J6.out (fun k hk => hk.symm))) ?hk (fun _ _ => trivial) R6.out.s R6.out.d R6.out.d.size HQ.out ?_; (case hk => exact fun k hk => ⟨trivial, Ownl.typed J6.out R6.out.s (by decide) k hk.symm⟩); intro v6 w6 hs hb hg hat; have R7 := Aside0.mk (R6.out.push hs hb hg); clear hs hb hg hat)
        go_roundg (gk - 1)
        case measure => have := HI.out; omega
        case rel =>
          obtain ⟨h1, h2⟩ := HD.out
          injection h2 with h2 h3
          subst h2
          have hI := HI.out
          exact ⟨i + 1, r, ds ++ [⟨r.code, r.pages⟩], rs2, _, _, _, by first | rfl | (rw [hw]; done), ⟨by omega, by omega, by simp; omega, by rw [List.append_assoc, List.singleton_append, h3]; exact hI.2.2.2⟩, ⟨h1⟩, R7⟩
    · have cl : decide ((i : Int) < (l.length : Int)) = false := decide_eq_false (by omega)
      have hI := HI.out
      have hi : i = l.length := by omega
      have hd := HS.out
      rw [hi, List.drop_length, steps] at hd
      have hd := Option.some.inj hd
      injection hd with h2 h3
      subst h2 h3
      have hds : ds = rs := by have := hI.2.2.2; rwa [List.append_nil] at this
      subst hds
      clear hd HS hI hi
      obtain ⟨X2, y2, e2⟩ := Kd.R_slice R.out.t.n
      obtain ⟨X3, y3, e3⟩ := Kd.R_slice R.out.t.h
      obtain ⟨X4, y4, e4⟩ := Kd.R_slice R.out.t.p
      subst e2 e3 e4
      have q0 := (blk_cell R.out.b7 0).trans (rfl : _ = some (Value.int .i64 T))
      have q1 := (blk_cell R.out.b7 1).trans (rfl : _ = some (Value.int .i64 o.E))
      have q2 := (blk_cell R.out.b7 2).trans (rfl : _ = some (Value.slice X2 o.now.length y2))
      have q3 := (blk_cell R.out.b7 3).trans (rfl : _ = some (Value.slice X3 o.held.length y3))
      have q4 := (blk_cell R.out.b7 4).trans (rfl : _ = some (Value.slice X4 o.pins.length y4))
      go_wp2_with (go_at_call 29; (with_reducible refine (spec_l04Own.calls T o.E X2 y2 o.now X3 y3 o.held X4 y4 o.pins _ _ _ _ _ _ (Kd.R_reads' R.out.t.n).2.2 (Kd.R_reads' R.out.t.n).2.1 (Kd.R_reads' R.out.t.h).2.2 (Kd.R_reads' R.out.t.h).2.1 (Kd.R_reads' R.out.t.p).2.2 (Kd.R_reads' R.out.t.p).2.1 (own_is T o.E o.now o.held o.pins HL.out.1 HL.out.2.1 HL.out.2.2)).mono ?_); rintro e W8 ⟨v2, v3, v4, rfl, r2, r3, r4, hB⟩; obtain ⟨B2, d2, e2⟩ := Kd.R_slice r2; obtain ⟨B3, d3, e3⟩ := Kd.R_slice r3; obtain ⟨B4, d4, e4⟩ := Kd.R_slice r4; generalize List.length _ = m2 at e2; generalize List.length _ = m3 at e3; generalize List.length _ = m4 at e4; subst e2 e3 e4; have T8 : Aside0 (Trio w.heap.size W8 (.slice B2 m2 d2) (.slice B3 m3 d3) (.slice B4 m4 d4) o.now o.held o.pins) := ⟨Trio.lower ⟨r2, r3, Kd.R_mono r4 (fun _ _ => trivial)⟩ R.out.d.size⟩; have R8 := Aside0.mk (R.out.below hB); clear r2 r3 r4 hB; have z0 := (blk_cell R8.out.b4 0).trans (rfl : _ = some (Value.int .i64 0)); have z1 := (blk_cell R8.out.b4 1).trans (rfl : _ = some (Value.int .i64 0)); have z2 := (blk_cell R8.out.b4 2).trans (rfl : _ = some (Value.slice none 0 0)); have z3 := (blk_cell R8.out.b4 3).trans (rfl : _ = some (Value.slice none 0 0)); have z4 := (blk_cell R8.out.b4 4).trans (rfl : _ = some (Value.slice none 0 0)); have zf := blk_frozen R8.out.b4)
      refine bodyPost_ret (Irun.results_ctt rfl _ _ g4 31 #[.int .i64 T, .int .i64 o.E, .slice B2 m2 d2, .slice B3 m3 d3, .slice B4 m4 d4] (0, 0) _ rfl (put5 R8.out.b4) Try.underlying31 rfl (by kernel_rfl)) rfl ?_
      exact ⟨_, _, _, _, rfl, T8.out.five R8.out.b4, R33 R8.out.s R8.out.b4, five_below R8.out.d R8.out.l4⟩
end Go.Proofs.Ytcnkacbgcmnokaa.XR.Srun
/- The law of a run: what its worlds keep; plain lemmas. -/
namespace Go.Proofs.Ytcnkacbgcmnokaa.XR.Law
open Go Go.RowKit Go.Proofs.YtcnkacbgcmnokaaW.PrintWords Go.Proofs.YtcnkacbgcmnokaaW.PrintLast Go.Proofs.YtcnkacbgcmnokaaW.PrintMore Go.Proofs.Ytcnkacbgcmnokaa.XR Go.Proofs.Ytcnkacbgcmnokaa.XR.Room Go.Proofs.Ytcnkacbgcmnokaa.XR.Fram
open Go.Proofs.Ytcnkacbgcmnokaa.XR.Irun (far)
set_option linter.unusedVariables false
set_option linter.unusedSimpArgs false
section
variable {b g g' : Nat} {w W W' : World} {T E : Int} {vn vh vp vr : Value} {now pins : List Int} {held : List S74} {rs : List S33}
theorem hold {α : Type} {d : Kd α} {e : Nat} {ok : Nat → Prop} {v : Value} {l : List α} (hE : d.E = []) (h : d.R e W b ok v l) (hm : ∀ k, v.ownBlock = some k → W'.heap[k]? = W.heap[k]?) : d.R e W' b ok v l :=
  Kd.R_reok hE (Kd.R_move (Kd.R_tight hE h) (fun k hk => hm k hk.symm)) h.1
theorem Trio_hold (t : Trio b W vn vh vp now held pins) (hm : ∀ k, vn.ownBlock = some k ∨ vh.ownBlock = some k ∨ vp.ownBlock = some k → W'.heap[k]? = W.heap[k]?) : Trio b W' vn vh vp now held pins :=
  ⟨hold rfl t.n (fun k hk => hm k (.inl hk)), hold rfl t.h (fun k hk => hm k (.inr (.inl hk))), hold rfl t.p (fun k hk => hm k (.inr (.inr hk)))⟩
theorem Own_hold (o : Own b g W T E vn vh vp now held pins) (hm : ∀ k, k = g ∨ vn.ownBlock = some k ∨ vh.ownBlock = some k ∨ vp.ownBlock = some k → W'.heap[k]? = W.heap[k]?) : Own b g W' T E vn vh vp now held pins :=
  ⟨(hm g (.inl rfl)).trans o.box, o.hg, Trio_hold o.r (fun k hk => hm k (.inr hk))⟩
theorem Own_lt (o : Own b g W T E vn vh vp now held pins) : ∀ k, k = g ∨ vn.ownBlock = some k ∨ vh.ownBlock = some k ∨ vp.ownBlock = some k → k < W.heap.size := by
  rintro k (rfl | h | h | h)
  · exact blk_lt o.box
  · exact Kd.R_lt o.r.n k h
  · exact Kd.R_lt o.r.h k h
  · exact Kd.R_lt o.r.p k h
theorem Own_ge (o : Own b g W T E vn vh vp now held pins) : ∀ k, k = g ∨ vn.ownBlock = some k ∨ vh.ownBlock = some k ∨ vp.ownBlock = some k → b ≤ k := by
  rintro k (rfl | h | h | h)
  · exact o.hg
  · exact Kd.R_base o.r.n k h
  · exact Kd.R_base o.r.h k h
  · exact Kd.R_base o.r.p k h
/-- What is wanted: all of it lies below N. -/
structure Wd (w : World) (g : Nat) (T E : Int) (vn vh vp : Value) (now : List Int) (held : List S74) (pins : List Int) (vr : Value) (rs : List S33) (N : Nat) (W : World) : Prop where
  o : Own 0 g W T E vn vh vp now held pins
  r : k33.R 33 W 0 (fun k => k < N) vr rs
  u : ∀ k, k = g ∨ vn.ownBlock = some k ∨ vh.ownBlock = some k ∨ vp.ownBlock = some k → k < N
  lw : w.heap.size ≤ N
  lN : N ≤ W.heap.size
  d : Below w.heap.size w W
variable {N M : Nat} {S : Nat → Prop}
theorem Wd.kept (H : Wd w g T E vn vh vp now held pins vr rs N W) (h : Kept W W' S) (hS : ∀ k, S k → N ≤ k) (hd : Below w.heap.size w W') : Wd w g T E vn vh vp now held pins vr rs N W' := by
  have hk : ∀ k, k < N → W'.heap[k]? = W.heap[k]? := fun k hl => h.2 k (Nat.lt_of_lt_of_le hl H.lN) (fun hs => Nat.lt_irrefl _ (Nat.lt_of_lt_of_le hl (hS k hs)))
  exact ⟨Own_hold H.o (fun k q => hk k (H.u k q)), Kd.R_move H.r hk, H.u, H.lw, Nat.le_trans H.lN h.1, hd⟩
theorem Wd.below (H : Wd w g T E vn vh vp now held pins vr rs N W) (h : Below W.heap.size W W') : Wd w g T E vn vh vp now held pins vr rs N W' := H.kept (Kept.of_below h (fun _ => False)) (fun _ hk => hk.elim) (below_step H.d h)
/-- The results: all of it lies from N on, and the rows lie apart. -/
structure Gt (g : Nat) (T E : Int) (vn vh vp : Value) (now : List Int) (held : List S74) (pins : List Int) (vr : Value) (rs : List S33) (N : Nat) (W : World) : Prop where
  o : Own N g W T E vn vh vp now held pins
  s : Kd.S k33 33 W N (far g vn vh vp) vr rs
  lN : N ≤ W.heap.size
theorem Gt.kept (H : Gt g T E vn vh vp now held pins vr rs N W) (h : Kept W W' S) (hS : ∀ k, S k → k < N) : Gt g T E vn vh vp now held pins vr rs N W' :=
  ⟨Own_hold H.o (fun k q => h.2 k (Own_lt H.o k q) (fun hs => Nat.lt_irrefl _ (Nat.lt_of_lt_of_le (hS k hs) (Own_ge H.o k q)))), Kd.S_mono (Kd.S_step (Kd.S_bound H.s) (fun k h1 h2 => h.2 k h2 (fun hs => Nat.lt_irrefl _ (Nat.lt_of_lt_of_le (hS k hs) h1.2.1)))) (fun k h => h.1), Nat.le_trans H.lN h.1⟩
theorem Gt.below (H : Gt g T E vn vh vp now held pins vr rs N W) (h : Below W.heap.size W W') : Gt g T E vn vh vp now held pins vr rs N W' := H.kept (Kept.of_below h (fun _ => False)) (fun _ hk => hk.elim)
end
section
variable {b g b2 g2 : Nat} {w W : World} {T E T2 E2 : Int} {vn vh vp vn2 vh2 vp2 vr vr2 : Value} {now pins now2 pins2 : List Int} {held held2 : List S74} {rs rs2 : List S33} {N M : Nat}
theorem mark (k : Nat) (a r1 : Int) (n' : List Int) (h' : List S74) (p' : List Int) (o : Own b g W T E vn vh vp now held pins) (d : Below w.heap.size w W) (hb : w.heap.size ≤ b) (h : laws_markSpace.f k T E now held pins a = some (r1, n', h', p')) :
    Calls Try.prog 12 #[.agg #[.int .i64 T, .int .i64 E, vn, vh, vp], .int .i64 a] W fun e W' => e = .returned (.int .i64 r1) ∧ Own b g W' T E vn vh vp n' h' p' ∧ Below w.heap.size w W' ∧ Kept W W' (fun q => vn.ownBlock = some q ∨ vh.ownBlock = some q ∨ vp.ownBlock = some q) := by
  refine (laws_markSpace.calls k T E (fun q => vn.ownBlock = some q) vn now (fun q => vh.ownBlock = some q) vh held (fun q => vp.ownBlock = some q) vp pins a r1 n' h' p' w W d (Kd.R_lower (Kd.R_reok rfl o.r.n (fun _ h => h)) hb) (fun q h1 h2 => o.r.n.1 q h1 h2.symm) (Kd.R_lower (Kd.R_reok rfl o.r.h (fun _ h => h)) hb) (Kd.R_lower (Kd.R_reok rfl o.r.p (fun _ h => h)) hb) (fun q h1 h2 => o.r.n.1 q h2 h1.symm) h).mono ?_
  rintro e W' ⟨rfl, hn, hh, hp, hB, hK⟩
  refine ⟨rfl, ⟨(hK.2 g (blk_lt o.box) ?_).trans o.box, o.hg, ?_, ?_, ?_⟩, hB, hK⟩
  · rintro (h | h | h)
    · exact Kd.R_ne o.r.n o.box (by decide) h.symm
    · exact Kd.R_ne o.r.h o.box (by decide) h.symm
    · exact Kd.R_ne o.r.p o.box (by decide) h.symm
  · exact Kd.R_raise (b := w.heap.size) (fun _ _ _ _ h => h) (Kd.R_reok rfl hn (fun q hq => o.r.n.1 q hq)) (Kd.R_base o.r.n)
  · exact Kd.R_raise (b := w.heap.size) (fun _ _ _ _ h => h) (Kd.R_reok rfl hh (fun q hq => trivial)) (Kd.R_base o.r.h)
  · exact Kd.R_raise (b := w.heap.size) (fun _ _ _ _ h => h) (Kd.R_reok rfl hp (fun q hq => trivial)) (Kd.R_base o.r.p)
theorem eqS (k : Nat) (o : Own b g W T E vn vh vp now held pins) (o2 : Own b2 g2 W T2 E2 vn2 vh2 vp2 now2 held2 pins2) (h : laws_eqSpace.f k T E now held pins T2 E2 now2 held2 pins2 = some true) :
    Calls Try.prog 10 #[.agg #[.int .i64 T, .int .i64 E, vn, vh, vp], .agg #[.int .i64 T2, .int .i64 E2, vn2, vh2, vp2]] W fun e W' => e = .returned (.bool true) ∧ Below W.heap.size W W' := by
  obtain ⟨A1, c1, rfl⟩ := Kd.R_slice o.r.n
  obtain ⟨A2, c2, rfl⟩ := Kd.R_slice o.r.h
  obtain ⟨A3, c3, rfl⟩ := Kd.R_slice o.r.p
  obtain ⟨A4, c4, rfl⟩ := Kd.R_slice o2.r.n
  obtain ⟨A5, c5, rfl⟩ := Kd.R_slice o2.r.h
  obtain ⟨A6, c6, rfl⟩ := Kd.R_slice o2.r.p
  exact laws_eqSpace.calls k T E A1 c1 now A2 c2 held A3 c3 pins T2 E2 A4 c4 now2 A5 c5 held2 A6 c6 pins2 true W (Kd.R_reads' o.r.n).2.2 (Kd.R_reads' o.r.n).2.1 (Kd.R_reads' o.r.h).2.2 (Kd.R_reads' o.r.h).2.1 (Kd.R_reads' o.r.p).2.2 (Kd.R_reads' o.r.p).2.1 (Kd.R_reads' o2.r.n).2.2 (Kd.R_reads' o2.r.n).2.1 (Kd.R_reads' o2.r.h).2.2 (Kd.R_reads' o2.r.h).2.1 (Kd.R_reads' o2.r.p).2.2 (Kd.R_reads' o2.r.p).2.1 h
theorem eqR {ok ok2 : Nat → Prop} (k : Nat) (h1 : k33.R 33 W b ok vr rs) (h2 : k33.R 33 W b2 ok2 vr2 rs2) (h : laws_eqSpaceReplyS.f k rs rs2 = some true) :
    Calls Try.prog 20 #[vr, vr2] W fun e W' => e = .returned (.bool true) ∧ Below W.heap.size W W' := by
  obtain ⟨A1, c1, rfl⟩ := Kd.R_slice h1
  obtain ⟨A4, c4, rfl⟩ := Kd.R_slice h2
  exact laws_eqSpaceReplyS.calls k A1 c1 rs A4 c4 rs2 true W (Kd.R_reads' h1).2.2 (Kd.R_reads' h1).2.1 (Kd.R_reads' h2).2.2 (Kd.R_reads' h2).2.1 h
theorem eqA {ok ok2 : Nat → Prop} {xs ys : List S37} (k : Nat) (h1 : k37.R 37 W b ok vr xs) (h2 : k37.R 37 W b2 ok2 vr2 ys) (h : laws_eqSpaceActS.f k xs ys = some true) :
    Calls Try.prog 21 #[vr, vr2] W fun e W' => e = .returned (.bool true) ∧ Below W.heap.size W W' := by
  obtain ⟨A1, c1, rfl⟩ := Kd.R_slice h1
  obtain ⟨A4, c4, rfl⟩ := Kd.R_slice h2
  exact laws_eqSpaceActS.calls k A1 c1 xs A4 c4 ys true W (Kd.R_reads' h1).2.2 (Kd.R_reads' h1).2.1 (Kd.R_reads' h2).2.2 (Kd.R_reads' h2).2.1 h
theorem heldT (k : Nat) (a r : Int) (h0 : 0 ≤ r) (o : Own b g W T E vn vh vp now held pins) (h : laws_heldSpace.f k T E now held pins a = some r) :
    Calls Try.prog 14 #[.agg #[.int .i64 T, .int .i64 E, vn, vh, vp], .int .i64 a] W fun e W' => e = .returned (.int .i64 r) ∧ Below W.heap.size W W' := by
  obtain ⟨A1, c1, rfl⟩ := Kd.R_slice o.r.n
  obtain ⟨A2, c2, rfl⟩ := Kd.R_slice o.r.h
  obtain ⟨A3, c3, rfl⟩ := Kd.R_slice o.r.p
  exact laws_heldSpace.calls k T E A1 c1 now A2 c2 held A3 c3 pins a r W (Kd.R_reads' o.r.n).2.2 (Kd.R_reads' o.r.n).2.1 (Kd.R_reads' o.r.h).2.2 (Kd.R_reads' o.r.h).2.1 (Kd.R_reads' o.r.p).2.2 (Kd.R_reads' o.r.p).2.1 h
theorem heldR {ok : Nat → Prop} (k : Nat) (a r : Int) (h0 : 0 ≤ r) (h1 : k33.R 33 W b ok vr rs) (h : laws_heldSpaceReplyS.f k rs a = some r) :
    Calls Try.prog 24 #[vr, .int .i64 a] W fun e W' => e = .returned (.int .i64 r) ∧ Below W.heap.size W W' := by
  obtain ⟨A1, c1, rfl⟩ := Kd.R_slice h1
  refine (laws_heldSpaceReplyS.calls k A1 c1 rs a r W (Kd.R_reads' h1).2.2 (Kd.R_reads' h1).2.1 h).mono ?_
  rintro e W' ⟨rfl, hd⟩
  exact ⟨rfl, hd.below⟩
/-- The results' space is marked. -/
theorem Gt.mark0 {g6 : Nat} {v2 v3 v4 v5 : Value} {T6 E6 : Int} {now6 pins6 : List Int} {held6 : List S74} {rs6 : List S33} (H : Gt g T E vn vh vp now held pins vr rs N W) (D : Wd w g6 T6 E6 v2 v3 v4 now6 held6 pins6 v5 rs6 M W) (hMN : M ≤ N) (k : Nat) (a r1 : Int) (n' : List Int) (h' : List S74) (p' : List Int) (h : laws_markSpace.f k T E now held pins a = some (r1, n', h', p')) :
    Calls Try.prog 12 #[.agg #[.int .i64 T, .int .i64 E, vn, vh, vp], .int .i64 a] W fun e W' => e = .returned (.int .i64 r1) ∧ Gt g T E vn vh vp n' h' p' vr rs N W' ∧ Wd w g6 T6 E6 v2 v3 v4 now6 held6 pins6 v5 rs6 M W' := by
  refine (mark k a r1 n' h' p' H.o D.d (Nat.le_trans D.lw hMN) h).mono ?_
  rintro e W' ⟨rfl, o, hB, hK⟩
  refine ⟨rfl, ⟨o, Kd.S_step H.s (fun q hf hl => hK.2 q hl ?_), Nat.le_trans H.lN hK.1⟩, D.kept hK (fun q hq => Nat.le_trans hMN (Own_ge H.o q (.inr hq))) hB⟩
  rintro (h | h | h)
  · exact hf.2.1 h.symm
  · exact hf.2.2.1 h.symm
  · exact hf.2.2.2 h.symm
theorem Gt.mark1 {g6 : Nat} {v2 v3 v4 v5 : Value} {T6 E6 : Int} {now6 pins6 : List Int} {held6 : List S74} {rs6 : List S33} (H : Gt g T E vn vh vp now held pins vr rs N W) (D : Wd w g6 T6 E6 v2 v3 v4 now6 held6 pins6 v5 rs6 M W) (hMN : M ≤ N) (a : Int) (h0 : 0 ≤ a) (h1 : MX.at_ a rs rs.length ≤ 4611686018427387904) (h2 : rs.length ≤ 1099511627776) :
    Calls Try.prog 23 #[vr, .int .i64 a] W fun e W' => e = .returned (.int .i64 (MX.at_ a rs rs.length)) ∧ Gt g T E vn vh vp now held pins vr (MX.mk a rs) N W' ∧ Wd w g6 T6 E6 v2 v3 v4 now6 held6 pins6 v5 rs6 M W' := by
  refine (MX.mr N (fun k => far g vn vh vp k ∧ N ≤ k) vr rs a W (Kd.S_mono (Kd.S_bound H.s) (fun k h => ⟨h.1, h.2.1⟩)) h0 h1 h2 H.lN).mono ?_
  rintro e W' ⟨rfl, hs, hB, hK⟩
  refine ⟨rfl, ⟨Own_hold H.o (fun q hq => hK.2 q (Own_lt H.o q hq) (fun hf => ?_)), Kd.S_mono hs (fun k h => h.1), Nat.le_trans H.lN hK.1⟩, D.kept hK (fun q hq => Nat.le_trans hMN hq.2) (D.d.trans (hB.mono (Nat.le_trans D.lw hMN)))⟩
  rcases hq with h | h | h | h
  · exact hf.1.1 h
  · exact hf.1.2.1 h.symm
  · exact hf.1.2.2.1 h.symm
  · exact hf.1.2.2.2 h.symm
/-- The acts that were handed over are marked. -/
theorem markX {g6 : Nat} {v2 v3 v4 v5 x : Value} {T6 E6 : Int} {now6 pins6 : List Int} {held6 : List S74} {rs6 : List S33} {xs : List S37} (X : k37.R 37 W N (fun k => k < M) x xs) (H : Gt g T E vn vh vp now held pins vr rs M W) (D : Wd w g6 T6 E6 v2 v3 v4 now6 held6 pins6 v5 rs6 N W) (k : Nat) (a r1 : Int) (ys : List S37) (h : laws_markSpaceActS.f k xs a = some (r1, ys)) :
    Calls Try.prog 22 #[x, .int .i64 a] W fun e W' => e = .returned (.int .i64 r1) ∧ Gt g T E vn vh vp now held pins vr rs M W' ∧ Wd w g6 T6 E6 v2 v3 v4 now6 held6 pins6 v5 rs6 N W' := by
  refine (laws_markSpaceActS.calls k (fun q => x.ownBlock = some q) x xs a r1 ys w W D.d (Kd.R_lower (Kd.R_reok rfl X (fun _ h => h)) D.lw) h).mono ?_
  rintro e W' ⟨rfl, hr, hB, hK⟩
  exact ⟨rfl, H.kept hK (fun q hq => X.1 q hq), D.kept hK (fun q hq => Kd.R_base X q hq) hB⟩
end
end Go.Proofs.Ytcnkacbgcmnokaa.XR.Law
