/- A space once more, in rows of its own (spec.l04Own): a region that draws its order, in whatever order. -/
import Derived.Test.YtcnkacbgcmnokaaRoomR
import Derived.Test.YtcnkacbgcmnokaaFramR
namespace Go.Proofs.Ytcnkacbgcmnokaa.XR
open Go Go.RowKit Go.Proofs.YtcnkacbgcmnokaaW.PrintWords Go.Proofs.YtcnkacbgcmnokaaW.PrintLast Go.Proofs.YtcnkacbgcmnokaaW.PrintMore Go.Proofs.Ytcnkacbgcmnokaa.XR.Room Go.Proofs.Ytcnkacbgcmnokaa.XR.Fram
set_option linter.unusedVariables false
set_option linter.unusedSimpArgs false
set_option maxRecDepth 100000
def spec_l04Own.f (a0_0 : Int) (a0_1 : Int) (l0_2 : List Int) (l0_3 : List (S74)) (l0_4 : List Int) : Option (Int × Int × List Int × (List (S74)) × List Int) := (some (([] : List Int) : List Int)).bind fun y174 => (if y174.length + l0_2.length < 17592186044416 then ((some (([] : List (S74)) : List (S74))).bind fun y180 => (if y180.length + l0_3.length < 8796093022208 then ((some (([] : List Int) : List Int)).bind fun y186 => (if y186.length + l0_4.length < 17592186044416 then (some (a0_0, a0_1, (y174 ++ l0_2), (y180 ++ l0_3), (y186 ++ l0_4))) else (none))) else (none))) else (none))
namespace Ownl
/-- The rows made so far; the two of numbers lie apart. -/
structure Rw (b : Nat) (X Y Z : Option Value) (xs : List Int) (ys : List S74) (zs : List Int) (W : World) : Prop where
  x : ∀ v, X = some v → (Kd.int .i64).R 3 W b (fun _ => True) v xs
  y : ∀ v, Y = some v → k74.R 74 W b (fun _ => True) v ys
  z : ∀ v, Z = some v → (Kd.int .i64).R 3 W b (fun _ => True) v zs
  xz : ∀ v v' k, X = some v → Z = some v' → v.ownBlock = some k → v'.ownBlock ≠ some k
section
variable {b : Nat} {X Y Z : Option Value} {xs zs xs' zs' : List Int} {ys ys' : List S74} {W W' : World} {v v' : Value}
theorem Rw.below (r : Rw b X Y Z xs ys zs W) (h : Below W.heap.size W W') : Rw b X Y Z xs ys zs W' :=
  ⟨fun v e => Kd.R_below (r.x v e) h, fun v e => Kd.R_below (r.y v e) h, fun v e => Kd.R_below (r.z v e) h, r.xz⟩
theorem Rw.mkx (r : Rw b none Y Z xs ys zs W) (hb : b ≤ W.heap.size) (n : (Kd.int .i64).R 3 W' W.heap.size (fun _ => True) v xs') (h : Below W.heap.size W W') : Rw b (some v) Y Z xs' ys zs W' :=
  ⟨fun u e => by cases e; exact Kd.R_lower n hb, (r.below h).y, (r.below h).z, fun u u' k e e' hk hk' => by
    cases e
    exact absurd (Kd.R_lt (r.z u' e') k hk') (Nat.not_lt.2 (Kd.R_base n k hk))⟩
theorem Rw.mky (r : Rw b X none Z xs ys zs W) (hb : b ≤ W.heap.size) (n : k74.R 74 W' W.heap.size (fun _ => True) v ys') (h : Below W.heap.size W W') : Rw b X (some v) Z xs ys' zs W' :=
  ⟨(r.below h).x, fun u e => by cases e; exact Kd.R_lower n hb, (r.below h).z, r.xz⟩
theorem Rw.mkz (r : Rw b X Y none xs ys zs W) (hb : b ≤ W.heap.size) (n : (Kd.int .i64).R 3 W' W.heap.size (fun _ => True) v zs') (h : Below W.heap.size W W') : Rw b X Y (some v) xs ys zs' W' :=
  ⟨(r.below h).x, (r.below h).y, fun u e => by cases e; exact Kd.R_lower n hb, fun u u' k e e' hk hk' => by
    cases e'
    exact absurd (Kd.R_lt (r.x u e) k hk) (Nat.not_lt.2 (Kd.R_base n k hk'))⟩
theorem held {α : Type} {d : Kd α} {e : Nat} {ok : Nat → Prop} {u : Value} {l : List α} (hE : d.E = []) (h : d.R e W b ok u l) {row : Option Nat} (hg : W.grownBy W' row) (hn : ∀ k, u.ownBlock = some k → some k ≠ row) : d.R e W' b ok u l :=
  Kd.R_reok hE (Kd.R_move (Kd.R_tight hE h) (fun k hk => hg.block k (Kd.R_lt h k hk.symm) (hn k hk.symm))) h.1
theorem typed {α β : Type} {d : Kd α} {d' : Kd β} {e e' : Nat} {ok ok' : Nat → Prop} {b b' : Nat} {u u' : Value} {l : List α} {l' : List β} (h : d.R e W b ok u l) (h' : d'.R e' W b' ok' u' l') (hne : e ≠ e') : ∀ k, u.ownBlock = some k → some k ≠ u'.ownBlock := fun k hk hk' => by
  obtain ⟨c, hc⟩ := Kd.R_typed h k hk
  exact Kd.R_ne h' hc (Ne.symm hne) hk'
theorem apart (hg : W.grownBy W' v.ownBlock) (ht : v'.ownBlock = v.ownBlock ∨ ∃ k, v'.ownBlock = some k ∧ W.heap.size ≤ k) {u : Value} (hl : ∀ k, u.ownBlock = some k → k < W.heap.size) (hn : ∀ k, v.ownBlock = some k → u.ownBlock ≠ some k) : ∀ k, v'.ownBlock = some k → u.ownBlock ≠ some k := fun k hk hu => by
  rcases ht with h | ⟨q, hq, hl'⟩
  · exact hn k (h.symm.trans hk) hu
  · rw [hq] at hk
    cases hk
    exact absurd (hl _ hu) (Nat.not_lt.2 hl')
theorem Rw.apx (r : Rw b (some v) Y Z xs ys zs W) (n : (Kd.int .i64).R 3 W' b (fun _ => True) v' xs') (hg : W.grownBy W' v.ownBlock) (ht : v'.ownBlock = v.ownBlock ∨ ∃ k, v'.ownBlock = some k ∧ W.heap.size ≤ k) : Rw b (some v') Y Z xs' ys zs W' :=
  ⟨fun u e => by cases e; exact n, fun u e => held rfl (r.y u e) hg (typed (r.y u e) (r.x v rfl) (by decide)), fun u e => held rfl (r.z u e) hg (fun k hk hv => r.xz v u k rfl e hv.symm hk),
    fun u u' k e e' => by cases e; exact apart hg ht (Kd.R_lt (r.z u' e')) (fun k => r.xz v u' k rfl e') k⟩
theorem Rw.apy (r : Rw b X (some v) Z xs ys zs W) (n : k74.R 74 W' b (fun _ => True) v' ys') (hg : W.grownBy W' v.ownBlock) (ht : v'.ownBlock = v.ownBlock ∨ ∃ k, v'.ownBlock = some k ∧ W.heap.size ≤ k) : Rw b X (some v') Z xs ys' zs W' :=
  ⟨fun u e => held rfl (r.x u e) hg (typed (r.x u e) (r.y v rfl) (by decide)), fun u e => by cases e; exact n, fun u e => held rfl (r.z u e) hg (typed (r.z u e) (r.y v rfl) (by decide)), r.xz⟩
theorem Rw.apz (r : Rw b X Y (some v) xs ys zs W) (n : (Kd.int .i64).R 3 W' b (fun _ => True) v' zs') (hg : W.grownBy W' v.ownBlock) (ht : v'.ownBlock = v.ownBlock ∨ ∃ k, v'.ownBlock = some k ∧ W.heap.size ≤ k) : Rw b X Y (some v') xs ys zs' W' :=
  ⟨fun u e => held rfl (r.x u e) hg (fun k hk hv => r.xz u v k e rfl hk hv.symm), fun u e => held rfl (r.y u e) hg (typed (r.y u e) (r.z v rfl) (by decide)), fun u e => by cases e; exact n,
    fun u u' k e e' hk hk' => by cases e'; exact apart hg ht (Kd.R_lt (r.x u e)) (fun k hv hu => r.xz u v k e rfl hu hv) k hk' hk⟩
end
/-- The argument's box, and the result's. -/
structure Sx (w : World) (g1 g2 : Nat) (cs : Array Value) (W : World) : Prop where
  d : Below w.heap.size w W
  b1 : W.heap[g1]? = some (.cells cs 31 (0, 0))
  b2 : W.heap[g2]? = some zS
theorem Sx.below {w W W' : World} {g1 g2 : Nat} {cs : Array Value} (s : Sx w g1 g2 cs W) (h : Below W.heap.size W W') : Sx w g1 g2 cs W' := ⟨below_step s.d h, blk_below s.b1 h, blk_below s.b2 h⟩
theorem Sx.grown {w W W' : World} {g1 g2 : Nat} {cs : Array Value} {row : Option Nat} (s : Sx w g1 g2 cs W) (d : Below w.heap.size w W') (hg : W.grownBy W' row) (h : ∀ g c, W.heap[g]? = some (.cells c 31 (0, 0)) → some g ≠ row) : Sx w g1 g2 cs W' :=
  ⟨d, blk_grown s.b1 hg (h _ _ s.b1), blk_grown s.b2 hg (h _ _ s.b2)⟩
def o0 : Oper := ⟨some 3, Op.fieldAddr 31 (Operand.tmp 1) 0, 0, "l04_space.go:39", #[], none⟩
def o1 : Oper := ⟨some 4, Op.load 3 (Operand.tmp 3), 3, "l04_space.go:39", #[da 0], none⟩
def o2 : Oper := ⟨some 5, Op.fieldAddr 31 (Operand.tmp 1) 1, 0, "l04_space.go:39", #[], none⟩
def o3 : Oper := ⟨some 6, Op.load 3 (Operand.tmp 5), 3, "l04_space.go:39", #[da 2], none⟩
def o4 : Oper := ⟨some 7, Op.buildSlice 22 0 #[], 22, "l04_space.go:39", #[], none⟩
def o5 : Oper := ⟨some 8, Op.fieldAddr 31 (Operand.tmp 1) 2, 0, "l04_space.go:39", #[], none⟩
def o6 : Oper := ⟨some 9, Op.load 22 (Operand.tmp 8), 22, "l04_space.go:39", #[da 5], none⟩
def o7 : Oper := ⟨some 10, Op.call { callee := Callee.builtin Builtin.append, args := #[Operand.tmp 7, Operand.tmp 9], argTypes := #[22, 22] }, 22, "l04_space.go:39", #[da 4, da 6], none⟩
def o8 : Oper := ⟨some 11, Op.buildSlice 29 0 #[], 29, "l04_space.go:39", #[], none⟩
def o9 : Oper := ⟨some 12, Op.fieldAddr 31 (Operand.tmp 1) 3, 0, "l04_space.go:39", #[], none⟩
def o10 : Oper := ⟨some 13, Op.load 29 (Operand.tmp 12), 29, "l04_space.go:39", #[da 9], none⟩
def o11 : Oper := ⟨some 14, Op.call { callee := Callee.builtin Builtin.append, args := #[Operand.tmp 11, Operand.tmp 13], argTypes := #[29, 29] }, 29, "l04_space.go:39", #[da 8, da 10, cn 7], none⟩
def o12 : Oper := ⟨some 15, Op.buildSlice 22 0 #[], 22, "l04_space.go:39", #[], none⟩
def o13 : Oper := ⟨some 16, Op.fieldAddr 31 (Operand.tmp 1) 4, 0, "l04_space.go:39", #[], none⟩
def o14 : Oper := ⟨some 17, Op.load 22 (Operand.tmp 16), 22, "l04_space.go:39", #[da 13], none⟩
def o15 : Oper := ⟨some 18, Op.call { callee := Callee.builtin Builtin.append, args := #[Operand.tmp 15, Operand.tmp 17], argTypes := #[22, 22] }, 22, "l04_space.go:39", #[da 12, da 14, cn 11], none⟩
def o16 : Oper := ⟨some 19, Op.build 31 #[(0, Operand.tmp 4), (1, Operand.tmp 6), (2, Operand.tmp 10), (3, Operand.tmp 14), (4, Operand.tmp 18)], 31, "l04_space.go:39", #[da 1, da 3, da 7, da 11, da 15], none⟩
def o17 : Oper := ⟨none, Op.store 31 (Operand.tmp 2) (Operand.tmp 19), 0, "l04_space.go:39", #[da 16, cn 15, ph 0, ph 1, ph 2, ph 3, ph 4, ph 5, ph 6, ph 7, ph 8, ph 9, ph 10, ph 11, ph 12, ph 13, ph 14, ph 15, ph 16], none⟩
def ops : Array Oper := #[o0, o1, o2, o3, o4, o5, o6, o7, o8, o9, o10, o11, o12, o13, o14, o15, o16, o17]
def D : List Nat := [3, 4, 5, 6, 7, 8, 9, 10, 11, 12, 13, 14, 15, 16, 17, 18, 19]
/-- What has come up: the loads, c appends, the rows made. -/
def L (c : Nat) (x y z : Bool) : Array Bool := #[true, true, true, true, x, true, true, Nat.blt 0 c, y, true, true, Nat.blt 1 c, z, true, true, Nat.blt 2 c, false, false]
structure Dt where
  T : Int
  E : Int
  A2 : Option Addr
  c2 : Nat
  l2 : List Int
  A3 : Option Addr
  c3 : Nat
  l3 : List S74
  A4 : Option Addr
  c4 : Nat
  l4 : List Int
def Dt.cs (p : Dt) : Array Value := #[.int .i64 p.T, .int .i64 p.E, .slice p.A2 p.l2.length p.c2, .slice p.A3 p.l3.length p.c3, .slice p.A4 p.l4.length p.c4]
/-- What is known at the region's beginning, and what is asked behind it. -/
structure Cx (p : Dt) (a0 : Act) (w W0 : World) (Q : Exit → Act → World → Prop) (g1 g2 : Nat) : Prop where
  sz : a0.tmps.size = 20
  p1 : at_ a0 1 (pt g1)
  ne : g1 ≠ g2
  p2 : at_ a0 2 (pt g2)
  s0 : Sx w g1 g2 p.cs W0
  lg : w.heap.size ≤ g2
  r2 : Kd.C (Kd.int .i64) w p.A2 p.l2.length p.l2
  r3 : Kd.C k74 w p.A3 p.l3.length p.l3
  r4 : Kd.C (Kd.int .i64) w p.A4 p.l4.length p.l4
  n2 : p.l2.length < 17592186044416
  n3 : p.l3.length < 8796093022208
  n4 : p.l4.length < 17592186044416
  hp : ∀ c a d v W, Q (.panic c) (st a d v) W → Q (.panic c) a W
  hq : ∀ (t : Act) (u v z : Value) (W : World), t.defers = a0.defers → at_ t 2 (pt g2) → Below w.heap.size w W → W.heap[g2]? = some (.cells #[.int .i64 p.T, .int .i64 p.E, u, v, z] 31 (0, 0)) → Rw w.heap.size (some u) (some v) (some z) p.l2 p.l3 p.l4 W → Q .normal t W
section
variable {p : Dt} {a0 a : Act} {w W W0 : World} {Q : Exit → Act → World → Prop} {g1 g2 c : Nat} {X Y Z : Option Value} {u v q : Value} {K : Act → World → Prop}
/-- Behind c of the appends, with these rows made. -/
structure Nd (p : Dt) (a0 : Act) (w : World) (g1 g2 c : Nat) (X Y Z : Option Value) (a : Act) (W : World) : Prop where
  fa : Fa D a0 a
  s : Sx w g1 g2 p.cs W
  e4 : at_ a 4 (.int .i64 p.T)
  e6 : at_ a 6 (.int .i64 p.E)
  e9 : at_ a 9 (.slice p.A2 p.l2.length p.c2)
  e13 : at_ a 13 (.slice p.A3 p.l3.length p.c3)
  e17 : at_ a 17 (.slice p.A4 p.l4.length p.c4)
  r : Rw w.heap.size X Y Z (if 1 ≤ c then p.l2 else []) (if 2 ≤ c then p.l3 else []) (if 3 ≤ c then p.l4 else []) W
  x : ∀ v, X = some v → at_ a (if 1 ≤ c then 10 else 7) v
  y : ∀ v, Y = some v → at_ a (if 2 ≤ c then 14 else 11) v
  z : ∀ v, Z = some v → at_ a (if 3 ≤ c then 18 else 15) v
theorem run4 (h : ∀ v W', (Kd.int .i64).R 3 W' W.heap.size (fun _ => True) v [] → Below W.heap.size W W' → K (st a 7 v) W') : wpOp Try.prog ops Q 4 K a W := by
  refine wpOp_step (o := o4) rfl (fun K2 hK2 => ?_)
  have hu := Try.underlying22
  refine Kd.R_lit_step (Kd.int .i64) (w0 := W) W.heap.size 3 (by rfl) (N := 7) rfl (xs := ([] : List Int)) (inner := []) (ok := fun _ => True) (okp := fun _ => True) ?hr (Reps.none _ _) (fun _ hk => hk) trivial (Below.refl _ _) (Nat.le_refl _) (by simp) ?_
  case hr => unfold o4; first | (go_simp; done) | (go_simp; rfl)
  intro v W' hr hb hg hn
  exact hK2 _ _ (h v W' hr hb)
theorem run8 (h : ∀ v W', k74.R 74 W' W.heap.size (fun _ => True) v [] → Below W.heap.size W W' → K (st a 11 v) W') : wpOp Try.prog ops Q 8 K a W := by
  refine wpOp_step (o := o8) rfl (fun K2 hK2 => ?_)
  have hu := Try.underlying29
  refine Kd.R_lit_step k74 (w0 := W) W.heap.size 74 (by rfl) (N := 11) rfl (xs := ([] : List S74)) (inner := []) (ok := fun _ => True) (okp := fun _ => True) ?hr (Reps.none _ _) (fun _ hk => hk) trivial (Below.refl _ _) (Nat.le_refl _) (by simp) ?_
  case hr => unfold o8; first | (go_simp; done) | (go_simp; rfl)
  intro v W' hr hb hg hn
  exact hK2 _ _ (h v W' hr hb)
theorem run12 (h : ∀ v W', (Kd.int .i64).R 3 W' W.heap.size (fun _ => True) v [] → Below W.heap.size W W' → K (st a 15 v) W') : wpOp Try.prog ops Q 12 K a W := by
  refine wpOp_step (o := o12) rfl (fun K2 hK2 => ?_)
  have hu := Try.underlying22
  refine Kd.R_lit_step (Kd.int .i64) (w0 := W) W.heap.size 3 (by rfl) (N := 15) rfl (xs := ([] : List Int)) (inner := []) (ok := fun _ => True) (okp := fun _ => True) ?hr (Reps.none _ _) (fun _ hk => hk) trivial (Below.refl _ _) (Nat.le_refl _) (by simp) ?_
  case hr => unfold o12; first | (go_simp; done) | (go_simp; rfl)
  intro v W' hr hb hg hn
  exact hK2 _ _ (h v W' hr hb)
theorem run7 {A : Option Addr} {l : List Int} {n : Nat} (g0 : at_ a 7 v) (g1 : at_ a 9 (.slice A l.length n)) (d : Below w.heap.size w W) (HO : (Kd.int .i64).R 3 W w.heap.size (fun _ => True) v []) (HR : Kd.C (Kd.int .i64) w A l.length l) (hl : (0 + l.length) * 8 ≤ 140737488355328) (h : ∀ v' W', (Kd.int .i64).R 3 W' w.heap.size (fun _ => True) v' l → Below w.heap.size w W' → W.grownBy W' v.ownBlock → (v'.ownBlock = v.ownBlock ∨ ∃ b, v'.ownBlock = some b ∧ W.heap.size ≤ b) → K (st a 10 v') W') : wpOp Try.prog ops Q 7 K a W := by
  refine wpOp_step (o := o7) rfl (fun K2 hK2 => ?_)
  refine Kd.R_append_rows_step (Kd.int .i64) (w0 := w) w.heap.size (by rfl) (.tmp 7) (.tmp 9) 22 3 (.int .i64 0) 8 rfl Try.underlying22 info3 rfl (by decide) (by omega) v [] l A l.length n (fun _ => True) (fun _ => False) (ev g0) (ev g1) HO (Kd.C_below HR d) (fun _ _ h => h) (fun _ h => h.elim) (fun _ _ => trivial) d d.size hl ?_
  intro v' W' hr hb hg hn
  exact hK2 _ _ (h v' W' hr hb hg hn)
theorem run11 {A : Option Addr} {l : List S74} {n : Nat} (g0 : at_ a 11 v) (g1 : at_ a 13 (.slice A l.length n)) (d : Below w.heap.size w W) (HO : k74.R 74 W w.heap.size (fun _ => True) v []) (HR : Kd.C k74 w A l.length l) (hl : (0 + l.length) * 16 ≤ 140737488355328) (h : ∀ v' W', k74.R 74 W' w.heap.size (fun _ => True) v' l → Below w.heap.size w W' → W.grownBy W' v.ownBlock → (v'.ownBlock = v.ownBlock ∨ ∃ b, v'.ownBlock = some b ∧ W.heap.size ≤ b) → K (st a 14 v') W') : wpOp Try.prog ops Q 11 K a W := by
  refine wpOp_step (o := o11) rfl (fun K2 hK2 => ?_)
  refine Kd.R_append_rows_step k74 (w0 := w) w.heap.size (by rfl) (.tmp 11) (.tmp 13) 29 74 (.agg #[.int .i64 0, .int .i64 0]) 16 rfl Try.underlying29 info74 rfl (by decide) (by omega) v [] l A l.length n (fun _ => True) (fun _ => False) (ev g0) (ev g1) HO (Kd.C_below HR d) (fun _ _ h => h) (fun _ h => h.elim) (fun _ _ => trivial) d d.size hl ?_
  intro v' W' hr hb hg hn
  exact hK2 _ _ (h v' W' hr hb hg hn)
theorem run15 {A : Option Addr} {l : List Int} {n : Nat} (g0 : at_ a 15 v) (g1 : at_ a 17 (.slice A l.length n)) (d : Below w.heap.size w W) (HO : (Kd.int .i64).R 3 W w.heap.size (fun _ => True) v []) (HR : Kd.C (Kd.int .i64) w A l.length l) (hl : (0 + l.length) * 8 ≤ 140737488355328) (h : ∀ v' W', (Kd.int .i64).R 3 W' w.heap.size (fun _ => True) v' l → Below w.heap.size w W' → W.grownBy W' v.ownBlock → (v'.ownBlock = v.ownBlock ∨ ∃ b, v'.ownBlock = some b ∧ W.heap.size ≤ b) → K (st a 18 v') W') : wpOp Try.prog ops Q 15 K a W := by
  refine wpOp_step (o := o15) rfl (fun K2 hK2 => ?_)
  refine Kd.R_append_rows_step (Kd.int .i64) (w0 := w) w.heap.size (by rfl) (.tmp 15) (.tmp 17) 22 3 (.int .i64 0) 8 rfl Try.underlying22 info3 rfl (by decide) (by omega) v [] l A l.length n (fun _ => True) (fun _ => False) (ev g0) (ev g1) HO (Kd.C_below HR d) (fun _ _ h => h) (fun _ h => h.elim) (fun _ _ => trivial) d d.size hl ?_
  intro v' W' hr hb hg hn
  exact hK2 _ _ (h v' W' hr hb hg hn)
theorem run16 {B2 B3 B4 : Option Addr} {m2 m3 m4 d2 d3 d4 : Nat} (e0 : at_ a 4 (.int .i64 p.T)) (e1 : at_ a 6 (.int .i64 p.E)) (e2 : at_ a 10 (.slice B2 m2 d2)) (e3 : at_ a 14 (.slice B3 m3 d3)) (e4 : at_ a 18 (.slice B4 m4 d4)) (h : K (st a 19 (.agg #[.int .i64 p.T, .int .i64 p.E, .slice B2 m2 d2, .slice B3 m3 d3, .slice B4 m4 d4])) W) : wpOp Try.prog ops Q 16 K a W := by
  refine wpOp_step (o := o16) rfl (fun K2 hK2 => ?_)
  unfold o16
  have hu := Try.underlying31
  have h_ := Aside0.mk h; clear h
  go_simp
  exact hK2 _ _ h_.out
theorem run17 {B2 B3 B4 : Option Addr} {m2 m3 m4 d2 d3 d4 : Nat} (g0 : at_ a 2 (pt g2)) (g1 : at_ a 19 (.agg #[.int .i64 p.T, .int .i64 p.E, .slice B2 m2 d2, .slice B3 m3 d3, .slice B4 m4 d4])) (hb : W.heap[g2]? = some zS) (h : K a (((((W.setCell ⟨g2, 0, none⟩ (.int .i64 p.T)).setCell ⟨g2, 1, none⟩ (.int .i64 p.E)).setCell ⟨g2, 2, none⟩ (.slice B2 m2 d2)).setCell ⟨g2, 3, none⟩ (.slice B3 m3 d3)).setCell ⟨g2, 4, none⟩ (.slice B4 m4 d4))) : wpOp Try.prog ops Q 17 K a W := by
  refine wpOp_step (o := o17) rfl (fun K2 hK2 => ?_)
  unfold o17
  have hu := Try.underlying31
  have q0 := blk_cell hb 0
  have q1 := blk_cell hb 1
  have q2 := blk_cell hb 2
  have q3 := blk_cell hb 3
  have q4 := blk_cell hb 4
  have qf := blk_frozen hb
  have h_ := Aside0.mk h; clear h hb
  go_simp
  exact hK2 _ _ h_.out
theorem Rw.set {b : Nat} {xs zs : List Int} {ys : List S74} {g t : Nat} {cs : Array Value} (r : Rw b X Y Z xs ys zs W) (hb : W.heap[g]? = some (.cells cs t (0, 0))) (h1 : 3 ≠ t) (h2 : 74 ≠ t) (j : Nat) (e : Value) : Rw b X Y Z xs ys zs (W.setCell ⟨g, j, none⟩ e) :=
  ⟨fun v h => Kd.R_set (r.x v h) hb (by intro q hq; rw [List.mem_singleton.1 hq]; exact h1) j e, fun v h => Kd.R_set (r.y v h) hb (by intro q hq; rw [List.mem_singleton.1 hq]; exact h2) j e, fun v h => Kd.R_set (r.z v h) hb (by intro q hq; rw [List.mem_singleton.1 hq]; exact h1) j e, r.xz⟩
theorem Rw.five {b : Nat} {xs zs : List Int} {ys : List S74} {h : Nat} {T E : Int} {u v x : Value} (t : Rw b X Y Z xs ys zs W) (r : W.heap[h]? = some zS) : Rw b X Y Z xs ys zs (((((W.setCell ⟨h, 0, none⟩ (.int .i64 T)).setCell ⟨h, 1, none⟩ (.int .i64 E)).setCell ⟨h, 2, none⟩ u).setCell ⟨h, 3, none⟩ v).setCell ⟨h, 4, none⟩ x) :=
  (((((t.set r (by decide) (by decide) 0 _).set (blk_put r 0 _ rfl) (by decide) (by decide) 1 _).set (blk_put (blk_put r 0 _ rfl) 1 _ rfl) (by decide) (by decide) 2 _).set (blk_put (blk_put (blk_put r 0 _ rfl) 1 _ rfl) 2 _ rfl) (by decide) (by decide) 3 _).set (blk_put (blk_put (blk_put (blk_put r 0 _ rfl) 1 _ rfl) 2 _ rfl) 3 _ rfl) (by decide) (by decide) 4 _)
theorem tail (X1 : Cx p a0 w W0 Q g1 g2) (H : Nd p a0 w g1 g2 3 (some u) (some v) (some q) a W) : wpAnyH Try.prog .any ops Q (fun W => Below w.heap.size w W ∧ W.heap[g1]? = some (.cells p.cs 31 (0, 0))) 2 (L 3 true true true) a W := by
  obtain ⟨B2, d2, e2⟩ := Kd.R_slice (H.r.x u rfl)
  obtain ⟨B3, d3, e3⟩ := Kd.R_slice (H.r.y v rfl)
  obtain ⟨B4, d4, e4⟩ := Kd.R_slice (H.r.z q rfl)
  subst e2 e3 e4
  refine wpAnyH_all (rs := [16]) (by kernel_rfl) (by simp) ?_
  intro i hi; rw [List.mem_singleton.1 hi]
  refine run16 H.e4 H.e6 (H.x _ rfl) (H.y _ rfl) (H.z _ rfl) ⟨⟨H.s.d, H.s.b1⟩, ?_⟩
  refine wpAnyH_all (rs := [17]) (by kernel_rfl) (by simp) ?_
  intro i hi; rw [List.mem_singleton.1 hi]
  have hz : a.tmps.size = 20 := H.fa.sz.trans X1.sz
  have h2 : at_ a 2 (pt g2) := (congrArg (fun t => Option.getD t undef) (H.fa.eq 2 (by decide))).trans X1.p2
  refine run17 (st_ne (by decide) h2) (st_eq (by rw [hz]; decide)) H.s.b2 ⟨⟨five_below H.s.d X1.lg, ?_⟩, ?_⟩
  · exact blk_far (blk_far (blk_far (blk_far (blk_far H.s.b1 (p := ⟨g2, 0, none⟩) X1.ne _) (p := ⟨g2, 1, none⟩) X1.ne _) (p := ⟨g2, 2, none⟩) X1.ne _) (p := ⟨g2, 3, none⟩) X1.ne _) (p := ⟨g2, 4, none⟩) X1.ne _
  · refine wpAnyH_done (by kernel_rfl) ?_ _
    exact X1.hq _ _ _ _ _ H.fa.df (st_ne (by decide) h2) (five_below H.s.d X1.lg) (put5 H.s.b2) (H.r.five H.s.b2)
theorem Nd.mx0 (X1 : Cx p a0 w W0 Q g1 g2) {v : Value} {W' : World} (H : Nd p a0 w g1 g2 0 none Y Z a W) (n : (Kd.int .i64).R 3 W' W.heap.size (fun _ => True) v []) (h : Below W.heap.size W W') : Nd p a0 w g1 g2 0 (some v) Y Z (st a 7 v) W' :=
  ⟨H.fa.put (by decide) _, H.s.below h, st_ne (by decide) H.e4, st_ne (by decide) H.e6, st_ne (by decide) H.e9, st_ne (by decide) H.e13, st_ne (by decide) H.e17, H.r.mkx H.s.d.size n h, fun u e => by cases e; exact st_eq (by rw [H.fa.sz, X1.sz]; decide), fun u e => st_ne (by decide) (H.y u e), fun u e => st_ne (by decide) (H.z u e)⟩
theorem Nd.my0 (X1 : Cx p a0 w W0 Q g1 g2) {v : Value} {W' : World} (H : Nd p a0 w g1 g2 0 X none Z a W) (n : k74.R 74 W' W.heap.size (fun _ => True) v []) (h : Below W.heap.size W W') : Nd p a0 w g1 g2 0 X (some v) Z (st a 11 v) W' :=
  ⟨H.fa.put (by decide) _, H.s.below h, st_ne (by decide) H.e4, st_ne (by decide) H.e6, st_ne (by decide) H.e9, st_ne (by decide) H.e13, st_ne (by decide) H.e17, H.r.mky H.s.d.size n h, fun u e => st_ne (by decide) (H.x u e), fun u e => by cases e; exact st_eq (by rw [H.fa.sz, X1.sz]; decide), fun u e => st_ne (by decide) (H.z u e)⟩
theorem Nd.my1 (X1 : Cx p a0 w W0 Q g1 g2) {v : Value} {W' : World} (H : Nd p a0 w g1 g2 1 X none Z a W) (n : k74.R 74 W' W.heap.size (fun _ => True) v []) (h : Below W.heap.size W W') : Nd p a0 w g1 g2 1 X (some v) Z (st a 11 v) W' :=
  ⟨H.fa.put (by decide) _, H.s.below h, st_ne (by decide) H.e4, st_ne (by decide) H.e6, st_ne (by decide) H.e9, st_ne (by decide) H.e13, st_ne (by decide) H.e17, H.r.mky H.s.d.size n h, fun u e => st_ne (by decide) (H.x u e), fun u e => by cases e; exact st_eq (by rw [H.fa.sz, X1.sz]; decide), fun u e => st_ne (by decide) (H.z u e)⟩
theorem Nd.mz0 (X1 : Cx p a0 w W0 Q g1 g2) {v : Value} {W' : World} (H : Nd p a0 w g1 g2 0 X Y none a W) (n : (Kd.int .i64).R 3 W' W.heap.size (fun _ => True) v []) (h : Below W.heap.size W W') : Nd p a0 w g1 g2 0 X Y (some v) (st a 15 v) W' :=
  ⟨H.fa.put (by decide) _, H.s.below h, st_ne (by decide) H.e4, st_ne (by decide) H.e6, st_ne (by decide) H.e9, st_ne (by decide) H.e13, st_ne (by decide) H.e17, H.r.mkz H.s.d.size n h, fun u e => st_ne (by decide) (H.x u e), fun u e => st_ne (by decide) (H.y u e), fun u e => by cases e; exact st_eq (by rw [H.fa.sz, X1.sz]; decide)⟩
theorem Nd.mz1 (X1 : Cx p a0 w W0 Q g1 g2) {v : Value} {W' : World} (H : Nd p a0 w g1 g2 1 X Y none a W) (n : (Kd.int .i64).R 3 W' W.heap.size (fun _ => True) v []) (h : Below W.heap.size W W') : Nd p a0 w g1 g2 1 X Y (some v) (st a 15 v) W' :=
  ⟨H.fa.put (by decide) _, H.s.below h, st_ne (by decide) H.e4, st_ne (by decide) H.e6, st_ne (by decide) H.e9, st_ne (by decide) H.e13, st_ne (by decide) H.e17, H.r.mkz H.s.d.size n h, fun u e => st_ne (by decide) (H.x u e), fun u e => st_ne (by decide) (H.y u e), fun u e => by cases e; exact st_eq (by rw [H.fa.sz, X1.sz]; decide)⟩
theorem Nd.mz2 (X1 : Cx p a0 w W0 Q g1 g2) {v : Value} {W' : World} (H : Nd p a0 w g1 g2 2 X Y none a W) (n : (Kd.int .i64).R 3 W' W.heap.size (fun _ => True) v []) (h : Below W.heap.size W W') : Nd p a0 w g1 g2 2 X Y (some v) (st a 15 v) W' :=
  ⟨H.fa.put (by decide) _, H.s.below h, st_ne (by decide) H.e4, st_ne (by decide) H.e6, st_ne (by decide) H.e9, st_ne (by decide) H.e13, st_ne (by decide) H.e17, H.r.mkz H.s.d.size n h, fun u e => st_ne (by decide) (H.x u e), fun u e => st_ne (by decide) (H.y u e), fun u e => by cases e; exact st_eq (by rw [H.fa.sz, X1.sz]; decide)⟩
theorem Nd.ax (X1 : Cx p a0 w W0 Q g1 g2) {v v' : Value} {W' : World} (H : Nd p a0 w g1 g2 0 (some v) Y Z a W) (n : (Kd.int .i64).R 3 W' w.heap.size (fun _ => True) v' p.l2) (h : Below w.heap.size w W') (hg : W.grownBy W' v.ownBlock) (ht : v'.ownBlock = v.ownBlock ∨ ∃ b, v'.ownBlock = some b ∧ W.heap.size ≤ b) : Nd p a0 w g1 g2 1 (some v') Y Z (st a 10 v') W' :=
  ⟨H.fa.put (by decide) _, H.s.grown h hg (fun _ _ hb => Kd.R_ne (H.r.x v rfl) hb (by decide)), st_ne (by decide) H.e4, st_ne (by decide) H.e6, st_ne (by decide) H.e9, st_ne (by decide) H.e13, st_ne (by decide) H.e17, H.r.apx n hg ht, fun u e => by cases e; exact st_eq (by rw [H.fa.sz, X1.sz]; decide), fun u e => st_ne (by decide) (H.y u e), fun u e => st_ne (by decide) (H.z u e)⟩
theorem Nd.ay (X1 : Cx p a0 w W0 Q g1 g2) {v v' : Value} {W' : World} (H : Nd p a0 w g1 g2 1 X (some v) Z a W) (n : k74.R 74 W' w.heap.size (fun _ => True) v' p.l3) (h : Below w.heap.size w W') (hg : W.grownBy W' v.ownBlock) (ht : v'.ownBlock = v.ownBlock ∨ ∃ b, v'.ownBlock = some b ∧ W.heap.size ≤ b) : Nd p a0 w g1 g2 2 X (some v') Z (st a 14 v') W' :=
  ⟨H.fa.put (by decide) _, H.s.grown h hg (fun _ _ hb => Kd.R_ne (H.r.y v rfl) hb (by decide)), st_ne (by decide) H.e4, st_ne (by decide) H.e6, st_ne (by decide) H.e9, st_ne (by decide) H.e13, st_ne (by decide) H.e17, H.r.apy n hg ht, fun u e => st_ne (by decide) (H.x u e), fun u e => by cases e; exact st_eq (by rw [H.fa.sz, X1.sz]; decide), fun u e => st_ne (by decide) (H.z u e)⟩
theorem Nd.az (X1 : Cx p a0 w W0 Q g1 g2) {v v' : Value} {W' : World} (H : Nd p a0 w g1 g2 2 X Y (some v) a W) (n : (Kd.int .i64).R 3 W' w.heap.size (fun _ => True) v' p.l4) (h : Below w.heap.size w W') (hg : W.grownBy W' v.ownBlock) (ht : v'.ownBlock = v.ownBlock ∨ ∃ b, v'.ownBlock = some b ∧ W.heap.size ≤ b) : Nd p a0 w g1 g2 3 X Y (some v') (st a 18 v') W' :=
  ⟨H.fa.put (by decide) _, H.s.grown h hg (fun _ _ hb => Kd.R_ne (H.r.z v rfl) hb (by decide)), st_ne (by decide) H.e4, st_ne (by decide) H.e6, st_ne (by decide) H.e9, st_ne (by decide) H.e13, st_ne (by decide) H.e17, H.r.apz n hg ht, fun u e => st_ne (by decide) (H.x u e), fun u e => st_ne (by decide) (H.y u e), fun u e => by cases e; exact st_eq (by rw [H.fa.sz, X1.sz]; decide)⟩
theorem node2111 (X1 : Cx p a0 w W0 Q g1 g2) (H : Nd p a0 w g1 g2 2 (some u) (some v) (some q) a W) : wpAnyH Try.prog .any ops Q (fun W => Below w.heap.size w W ∧ W.heap[g1]? = some (.cells p.cs 31 (0, 0))) 3 (L 2 true true true) a W := by
  refine wpAnyH_all (rs := [15]) (by kernel_rfl) (by simp) ?_
  intro i hi
  simp only [List.mem_cons, List.not_mem_nil, or_false] at hi
  rcases hi with rfl
  · exact run15 (H.z _ rfl) H.e17 H.s.d (H.r.z _ rfl) X1.r4 (by have := X1.n4; omega) (fun v' W' n h hg ht => have H2 := H.az X1 n h hg ht; ⟨⟨H2.s.d, H2.s.b1⟩, tail X1 H2⟩)
theorem node2110 (X1 : Cx p a0 w W0 Q g1 g2) (H : Nd p a0 w g1 g2 2 (some u) (some v) none a W) : wpAnyH Try.prog .any ops Q (fun W => Below w.heap.size w W ∧ W.heap[g1]? = some (.cells p.cs 31 (0, 0))) 4 (L 2 true true false) a W := by
  refine wpAnyH_all (rs := [12]) (by kernel_rfl) (by simp) ?_
  intro i hi
  simp only [List.mem_cons, List.not_mem_nil, or_false] at hi
  rcases hi with rfl
  · exact run12 (fun v W' n h => have H2 := H.mz2 X1 n h; ⟨⟨H2.s.d, H2.s.b1⟩, node2111 X1 H2⟩)
theorem node1111 (X1 : Cx p a0 w W0 Q g1 g2) (H : Nd p a0 w g1 g2 1 (some u) (some v) (some q) a W) : wpAnyH Try.prog .any ops Q (fun W => Below w.heap.size w W ∧ W.heap[g1]? = some (.cells p.cs 31 (0, 0))) 4 (L 1 true true true) a W := by
  refine wpAnyH_all (rs := [11]) (by kernel_rfl) (by simp) ?_
  intro i hi
  simp only [List.mem_cons, List.not_mem_nil, or_false] at hi
  rcases hi with rfl
  · exact run11 (H.y _ rfl) H.e13 H.s.d (H.r.y _ rfl) X1.r3 (by have := X1.n3; omega) (fun v' W' n h hg ht => have H2 := H.ay X1 n h hg ht; ⟨⟨H2.s.d, H2.s.b1⟩, node2111 X1 H2⟩)
theorem node1101 (X1 : Cx p a0 w W0 Q g1 g2) (H : Nd p a0 w g1 g2 1 (some u) none (some q) a W) : wpAnyH Try.prog .any ops Q (fun W => Below w.heap.size w W ∧ W.heap[g1]? = some (.cells p.cs 31 (0, 0))) 5 (L 1 true false true) a W := by
  refine wpAnyH_all (rs := [8]) (by kernel_rfl) (by simp) ?_
  intro i hi
  simp only [List.mem_cons, List.not_mem_nil, or_false] at hi
  rcases hi with rfl
  · exact run8 (fun v W' n h => have H2 := H.my1 X1 n h; ⟨⟨H2.s.d, H2.s.b1⟩, node1111 X1 H2⟩)
theorem node1110 (X1 : Cx p a0 w W0 Q g1 g2) (H : Nd p a0 w g1 g2 1 (some u) (some v) none a W) : wpAnyH Try.prog .any ops Q (fun W => Below w.heap.size w W ∧ W.heap[g1]? = some (.cells p.cs 31 (0, 0))) 5 (L 1 true true false) a W := by
  refine wpAnyH_all (rs := [11, 12]) (by kernel_rfl) (by simp) ?_
  intro i hi
  simp only [List.mem_cons, List.not_mem_nil, or_false] at hi
  rcases hi with rfl | rfl
  · exact run11 (H.y _ rfl) H.e13 H.s.d (H.r.y _ rfl) X1.r3 (by have := X1.n3; omega) (fun v' W' n h hg ht => have H2 := H.ay X1 n h hg ht; ⟨⟨H2.s.d, H2.s.b1⟩, node2110 X1 H2⟩)
  · exact run12 (fun v W' n h => have H2 := H.mz1 X1 n h; ⟨⟨H2.s.d, H2.s.b1⟩, node1111 X1 H2⟩)
theorem node1100 (X1 : Cx p a0 w W0 Q g1 g2) (H : Nd p a0 w g1 g2 1 (some u) none none a W) : wpAnyH Try.prog .any ops Q (fun W => Below w.heap.size w W ∧ W.heap[g1]? = some (.cells p.cs 31 (0, 0))) 6 (L 1 true false false) a W := by
  refine wpAnyH_all (rs := [8, 12]) (by kernel_rfl) (by simp) ?_
  intro i hi
  simp only [List.mem_cons, List.not_mem_nil, or_false] at hi
  rcases hi with rfl | rfl
  · exact run8 (fun v W' n h => have H2 := H.my1 X1 n h; ⟨⟨H2.s.d, H2.s.b1⟩, node1110 X1 H2⟩)
  · exact run12 (fun v W' n h => have H2 := H.mz1 X1 n h; ⟨⟨H2.s.d, H2.s.b1⟩, node1101 X1 H2⟩)
theorem node0111 (X1 : Cx p a0 w W0 Q g1 g2) (H : Nd p a0 w g1 g2 0 (some u) (some v) (some q) a W) : wpAnyH Try.prog .any ops Q (fun W => Below w.heap.size w W ∧ W.heap[g1]? = some (.cells p.cs 31 (0, 0))) 5 (L 0 true true true) a W := by
  refine wpAnyH_all (rs := [7]) (by kernel_rfl) (by simp) ?_
  intro i hi
  simp only [List.mem_cons, List.not_mem_nil, or_false] at hi
  rcases hi with rfl
  · exact run7 (H.x _ rfl) H.e9 H.s.d (H.r.x _ rfl) X1.r2 (by have := X1.n2; omega) (fun v' W' n h hg ht => have H2 := H.ax X1 n h hg ht; ⟨⟨H2.s.d, H2.s.b1⟩, node1111 X1 H2⟩)
theorem node0011 (X1 : Cx p a0 w W0 Q g1 g2) (H : Nd p a0 w g1 g2 0 none (some v) (some q) a W) : wpAnyH Try.prog .any ops Q (fun W => Below w.heap.size w W ∧ W.heap[g1]? = some (.cells p.cs 31 (0, 0))) 6 (L 0 false true true) a W := by
  refine wpAnyH_all (rs := [4]) (by kernel_rfl) (by simp) ?_
  intro i hi
  simp only [List.mem_cons, List.not_mem_nil, or_false] at hi
  rcases hi with rfl
  · exact run4 (fun v W' n h => have H2 := H.mx0 X1 n h; ⟨⟨H2.s.d, H2.s.b1⟩, node0111 X1 H2⟩)
theorem node0101 (X1 : Cx p a0 w W0 Q g1 g2) (H : Nd p a0 w g1 g2 0 (some u) none (some q) a W) : wpAnyH Try.prog .any ops Q (fun W => Below w.heap.size w W ∧ W.heap[g1]? = some (.cells p.cs 31 (0, 0))) 6 (L 0 true false true) a W := by
  refine wpAnyH_all (rs := [7, 8]) (by kernel_rfl) (by simp) ?_
  intro i hi
  simp only [List.mem_cons, List.not_mem_nil, or_false] at hi
  rcases hi with rfl | rfl
  · exact run7 (H.x _ rfl) H.e9 H.s.d (H.r.x _ rfl) X1.r2 (by have := X1.n2; omega) (fun v' W' n h hg ht => have H2 := H.ax X1 n h hg ht; ⟨⟨H2.s.d, H2.s.b1⟩, node1101 X1 H2⟩)
  · exact run8 (fun v W' n h => have H2 := H.my0 X1 n h; ⟨⟨H2.s.d, H2.s.b1⟩, node0111 X1 H2⟩)
theorem node0110 (X1 : Cx p a0 w W0 Q g1 g2) (H : Nd p a0 w g1 g2 0 (some u) (some v) none a W) : wpAnyH Try.prog .any ops Q (fun W => Below w.heap.size w W ∧ W.heap[g1]? = some (.cells p.cs 31 (0, 0))) 6 (L 0 true true false) a W := by
  refine wpAnyH_all (rs := [7, 12]) (by kernel_rfl) (by simp) ?_
  intro i hi
  simp only [List.mem_cons, List.not_mem_nil, or_false] at hi
  rcases hi with rfl | rfl
  · exact run7 (H.x _ rfl) H.e9 H.s.d (H.r.x _ rfl) X1.r2 (by have := X1.n2; omega) (fun v' W' n h hg ht => have H2 := H.ax X1 n h hg ht; ⟨⟨H2.s.d, H2.s.b1⟩, node1110 X1 H2⟩)
  · exact run12 (fun v W' n h => have H2 := H.mz0 X1 n h; ⟨⟨H2.s.d, H2.s.b1⟩, node0111 X1 H2⟩)
theorem node0001 (X1 : Cx p a0 w W0 Q g1 g2) (H : Nd p a0 w g1 g2 0 none none (some q) a W) : wpAnyH Try.prog .any ops Q (fun W => Below w.heap.size w W ∧ W.heap[g1]? = some (.cells p.cs 31 (0, 0))) 7 (L 0 false false true) a W := by
  refine wpAnyH_all (rs := [4, 8]) (by kernel_rfl) (by simp) ?_
  intro i hi
  simp only [List.mem_cons, List.not_mem_nil, or_false] at hi
  rcases hi with rfl | rfl
  · exact run4 (fun v W' n h => have H2 := H.mx0 X1 n h; ⟨⟨H2.s.d, H2.s.b1⟩, node0101 X1 H2⟩)
  · exact run8 (fun v W' n h => have H2 := H.my0 X1 n h; ⟨⟨H2.s.d, H2.s.b1⟩, node0011 X1 H2⟩)
theorem node0010 (X1 : Cx p a0 w W0 Q g1 g2) (H : Nd p a0 w g1 g2 0 none (some v) none a W) : wpAnyH Try.prog .any ops Q (fun W => Below w.heap.size w W ∧ W.heap[g1]? = some (.cells p.cs 31 (0, 0))) 7 (L 0 false true false) a W := by
  refine wpAnyH_all (rs := [4, 12]) (by kernel_rfl) (by simp) ?_
  intro i hi
  simp only [List.mem_cons, List.not_mem_nil, or_false] at hi
  rcases hi with rfl | rfl
  · exact run4 (fun v W' n h => have H2 := H.mx0 X1 n h; ⟨⟨H2.s.d, H2.s.b1⟩, node0110 X1 H2⟩)
  · exact run12 (fun v W' n h => have H2 := H.mz0 X1 n h; ⟨⟨H2.s.d, H2.s.b1⟩, node0011 X1 H2⟩)
theorem node0100 (X1 : Cx p a0 w W0 Q g1 g2) (H : Nd p a0 w g1 g2 0 (some u) none none a W) : wpAnyH Try.prog .any ops Q (fun W => Below w.heap.size w W ∧ W.heap[g1]? = some (.cells p.cs 31 (0, 0))) 7 (L 0 true false false) a W := by
  refine wpAnyH_all (rs := [7, 8, 12]) (by kernel_rfl) (by simp) ?_
  intro i hi
  simp only [List.mem_cons, List.not_mem_nil, or_false] at hi
  rcases hi with rfl | rfl | rfl
  · exact run7 (H.x _ rfl) H.e9 H.s.d (H.r.x _ rfl) X1.r2 (by have := X1.n2; omega) (fun v' W' n h hg ht => have H2 := H.ax X1 n h hg ht; ⟨⟨H2.s.d, H2.s.b1⟩, node1100 X1 H2⟩)
  · exact run8 (fun v W' n h => have H2 := H.my0 X1 n h; ⟨⟨H2.s.d, H2.s.b1⟩, node0110 X1 H2⟩)
  · exact run12 (fun v W' n h => have H2 := H.mz0 X1 n h; ⟨⟨H2.s.d, H2.s.b1⟩, node0101 X1 H2⟩)
theorem node0000 (X1 : Cx p a0 w W0 Q g1 g2) (H : Nd p a0 w g1 g2 0 none none none a W) : wpAnyH Try.prog .any ops Q (fun W => Below w.heap.size w W ∧ W.heap[g1]? = some (.cells p.cs 31 (0, 0))) 8 (L 0 false false false) a W := by
  refine wpAnyH_all (rs := [4, 8, 12]) (by kernel_rfl) (by simp) ?_
  intro i hi
  simp only [List.mem_cons, List.not_mem_nil, or_false] at hi
  rcases hi with rfl | rfl | rfl
  · exact run4 (fun v W' n h => have H2 := H.mx0 X1 n h; ⟨⟨H2.s.d, H2.s.b1⟩, node0100 X1 H2⟩)
  · exact run8 (fun v W' n h => have H2 := H.my0 X1 n h; ⟨⟨H2.s.d, H2.s.b1⟩, node0010 X1 H2⟩)
  · exact run12 (fun v W' n h => have H2 := H.mz0 X1 n h; ⟨⟨H2.s.d, H2.s.b1⟩, node0001 X1 H2⟩)
theorem whole (X1 : Cx p a0 w W0 Q g1 g2) (hW : W0.drew = W) : (Code.region 1 ops true).wp Try.prog Q a0 W0 := by
  have s0 : Sx w g1 g2 p.cs W0.drew := ⟨X1.s0.d.drew, X1.s0.b1, X1.s0.b2⟩
  refine wp_region_held_drew (S := (fun W => Below w.heap.size w W ∧ W.heap[g1]? = some (.cells p.cs 31 (0, 0)))) (by kernel_rfl) ⟨s0.d, s0.b1⟩ (fun d0 => ?_)
  have f1 : at_ a0 1 (pt g1) := X1.p1
  have hs0 : Aside0 (a0.tmps.size = 20) := ⟨X1.sz⟩
  refine wpAnyH_take (i := 0) (oi := o0) (v := (.pointer (some ⟨g1, 0, none⟩))) rfl (by kernel_rfl) (by kernel_rfl) (by kernel_rfl) (fun c a w h => X1.hp c a 3 _ w h) (Or.inl ⟨by rfl, fun W2 h2 => by have g := f1; unfold o0; have hu := Try.underlying31; go_simp⟩) d0 ?_
  obtain ⟨b0, hb⟩ : ∃ b, b = st a0 3 (.pointer (some ⟨g1, 0, none⟩)) := ⟨_, rfl⟩
  rw [show (Act.put a0 o0.dst (.pointer (some ⟨g1, 0, none⟩))) = b0 by rw [hb]; rfl]
  have hs1 : Aside0 (b0.tmps.size = 20) := ⟨by rw [hb]; exact Array.size_setIfInBounds.trans hs0.out⟩
  have fa0 : Fa D a0 b0 := by rw [hb]; exact Fa.put (Fa.refl D a0) (by decide) _
  have p0 : at_ b0 3 (.pointer (some ⟨g1, 0, none⟩)) := by rw [hb]; exact st_eq (by rw [hs0.out]; decide)
  replace f1 : at_ b0 1 (pt g1) := by rw [hb]; exact st_ne (by decide) f1
  clear hb
  refine wpAnyH_take (i := 1) (oi := o1) (v := (.int .i64 p.T)) rfl (by kernel_rfl) (by kernel_rfl) (by kernel_rfl) (fun c a w h => X1.hp c a 4 _ w h) (Or.inl ⟨by rfl, fun W2 h2 => by have g := p0; have c0 : W2.cell? ⟨g1, 0, none⟩ = some (.int .i64 p.T) := (blk_cell h2.2 0).trans rfl; unfold o1; go_simp⟩) d0 ?_
  obtain ⟨b1, hb⟩ : ∃ b, b = st b0 4 (.int .i64 p.T) := ⟨_, rfl⟩
  rw [show (Act.put b0 o1.dst (.int .i64 p.T)) = b1 by rw [hb]; rfl]
  have hs2 : Aside0 (b1.tmps.size = 20) := ⟨by rw [hb]; exact Array.size_setIfInBounds.trans hs1.out⟩
  have fa1 : Fa D a0 b1 := by rw [hb]; exact Fa.put (fa0) (by decide) _
  have p1 : at_ b1 4 (.int .i64 p.T) := by rw [hb]; exact st_eq (by rw [hs1.out]; decide)
  replace f1 : at_ b1 1 (pt g1) := by rw [hb]; exact st_ne (by decide) f1
  have k4 := p1
  clear hb
  refine wpAnyH_take (i := 2) (oi := o2) (v := (.pointer (some ⟨g1, 1, none⟩))) rfl (by kernel_rfl) (by kernel_rfl) (by kernel_rfl) (fun c a w h => X1.hp c a 5 _ w h) (Or.inl ⟨by rfl, fun W2 h2 => by have g := f1; unfold o2; have hu := Try.underlying31; go_simp⟩) d0 ?_
  obtain ⟨b2, hb⟩ : ∃ b, b = st b1 5 (.pointer (some ⟨g1, 1, none⟩)) := ⟨_, rfl⟩
  rw [show (Act.put b1 o2.dst (.pointer (some ⟨g1, 1, none⟩))) = b2 by rw [hb]; rfl]
  have hs3 : Aside0 (b2.tmps.size = 20) := ⟨by rw [hb]; exact Array.size_setIfInBounds.trans hs2.out⟩
  have fa2 : Fa D a0 b2 := by rw [hb]; exact Fa.put (fa1) (by decide) _
  have p2 : at_ b2 5 (.pointer (some ⟨g1, 1, none⟩)) := by rw [hb]; exact st_eq (by rw [hs2.out]; decide)
  replace f1 : at_ b2 1 (pt g1) := by rw [hb]; exact st_ne (by decide) f1
  replace k4 : at_ b2 4 (.int .i64 p.T) := by rw [hb]; exact st_ne (by decide) k4
  clear hb
  refine wpAnyH_take (i := 3) (oi := o3) (v := (.int .i64 p.E)) rfl (by kernel_rfl) (by kernel_rfl) (by kernel_rfl) (fun c a w h => X1.hp c a 6 _ w h) (Or.inl ⟨by rfl, fun W2 h2 => by have g := p2; have c0 : W2.cell? ⟨g1, 1, none⟩ = some (.int .i64 p.E) := (blk_cell h2.2 1).trans rfl; unfold o3; go_simp⟩) d0 ?_
  obtain ⟨b3, hb⟩ : ∃ b, b = st b2 6 (.int .i64 p.E) := ⟨_, rfl⟩
  rw [show (Act.put b2 o3.dst (.int .i64 p.E)) = b3 by rw [hb]; rfl]
  have hs4 : Aside0 (b3.tmps.size = 20) := ⟨by rw [hb]; exact Array.size_setIfInBounds.trans hs3.out⟩
  have fa3 : Fa D a0 b3 := by rw [hb]; exact Fa.put (fa2) (by decide) _
  have p3 : at_ b3 6 (.int .i64 p.E) := by rw [hb]; exact st_eq (by rw [hs3.out]; decide)
  replace f1 : at_ b3 1 (pt g1) := by rw [hb]; exact st_ne (by decide) f1
  replace k4 : at_ b3 4 (.int .i64 p.T) := by rw [hb]; exact st_ne (by decide) k4
  have k6 := p3
  clear hb
  refine wpAnyH_take (i := 5) (oi := o5) (v := (.pointer (some ⟨g1, 2, none⟩))) rfl (by kernel_rfl) (by kernel_rfl) (by kernel_rfl) (fun c a w h => X1.hp c a 8 _ w h) (Or.inl ⟨by rfl, fun W2 h2 => by have g := f1; unfold o5; have hu := Try.underlying31; go_simp⟩) d0 ?_
  obtain ⟨b4, hb⟩ : ∃ b, b = st b3 8 (.pointer (some ⟨g1, 2, none⟩)) := ⟨_, rfl⟩
  rw [show (Act.put b3 o5.dst (.pointer (some ⟨g1, 2, none⟩))) = b4 by rw [hb]; rfl]
  have hs5 : Aside0 (b4.tmps.size = 20) := ⟨by rw [hb]; exact Array.size_setIfInBounds.trans hs4.out⟩
  have fa4 : Fa D a0 b4 := by rw [hb]; exact Fa.put (fa3) (by decide) _
  have p4 : at_ b4 8 (.pointer (some ⟨g1, 2, none⟩)) := by rw [hb]; exact st_eq (by rw [hs4.out]; decide)
  replace f1 : at_ b4 1 (pt g1) := by rw [hb]; exact st_ne (by decide) f1
  replace k4 : at_ b4 4 (.int .i64 p.T) := by rw [hb]; exact st_ne (by decide) k4
  replace k6 : at_ b4 6 (.int .i64 p.E) := by rw [hb]; exact st_ne (by decide) k6
  clear hb
  refine wpAnyH_take (i := 6) (oi := o6) (v := (.slice p.A2 p.l2.length p.c2)) rfl (by kernel_rfl) (by kernel_rfl) (by kernel_rfl) (fun c a w h => X1.hp c a 9 _ w h) (Or.inl ⟨by rfl, fun W2 h2 => by have g := p4; have c0 : W2.cell? ⟨g1, 2, none⟩ = some (.slice p.A2 p.l2.length p.c2) := (blk_cell h2.2 2).trans rfl; unfold o6; go_simp⟩) d0 ?_
  obtain ⟨b5, hb⟩ : ∃ b, b = st b4 9 (.slice p.A2 p.l2.length p.c2) := ⟨_, rfl⟩
  rw [show (Act.put b4 o6.dst (.slice p.A2 p.l2.length p.c2)) = b5 by rw [hb]; rfl]
  have hs6 : Aside0 (b5.tmps.size = 20) := ⟨by rw [hb]; exact Array.size_setIfInBounds.trans hs5.out⟩
  have fa5 : Fa D a0 b5 := by rw [hb]; exact Fa.put (fa4) (by decide) _
  have p5 : at_ b5 9 (.slice p.A2 p.l2.length p.c2) := by rw [hb]; exact st_eq (by rw [hs5.out]; decide)
  replace f1 : at_ b5 1 (pt g1) := by rw [hb]; exact st_ne (by decide) f1
  replace k4 : at_ b5 4 (.int .i64 p.T) := by rw [hb]; exact st_ne (by decide) k4
  replace k6 : at_ b5 6 (.int .i64 p.E) := by rw [hb]; exact st_ne (by decide) k6
  have k9 := p5
  clear hb
  refine wpAnyH_take (i := 9) (oi := o9) (v := (.pointer (some ⟨g1, 3, none⟩))) rfl (by kernel_rfl) (by kernel_rfl) (by kernel_rfl) (fun c a w h => X1.hp c a 12 _ w h) (Or.inl ⟨by rfl, fun W2 h2 => by have g := f1; unfold o9; have hu := Try.underlying31; go_simp⟩) d0 ?_
  obtain ⟨b6, hb⟩ : ∃ b, b = st b5 12 (.pointer (some ⟨g1, 3, none⟩)) := ⟨_, rfl⟩
  rw [show (Act.put b5 o9.dst (.pointer (some ⟨g1, 3, none⟩))) = b6 by rw [hb]; rfl]
  have hs7 : Aside0 (b6.tmps.size = 20) := ⟨by rw [hb]; exact Array.size_setIfInBounds.trans hs6.out⟩
  have fa6 : Fa D a0 b6 := by rw [hb]; exact Fa.put (fa5) (by decide) _
  have p6 : at_ b6 12 (.pointer (some ⟨g1, 3, none⟩)) := by rw [hb]; exact st_eq (by rw [hs6.out]; decide)
  replace f1 : at_ b6 1 (pt g1) := by rw [hb]; exact st_ne (by decide) f1
  replace k4 : at_ b6 4 (.int .i64 p.T) := by rw [hb]; exact st_ne (by decide) k4
  replace k6 : at_ b6 6 (.int .i64 p.E) := by rw [hb]; exact st_ne (by decide) k6
  replace k9 : at_ b6 9 (.slice p.A2 p.l2.length p.c2) := by rw [hb]; exact st_ne (by decide) k9
  clear hb
  refine wpAnyH_take (i := 10) (oi := o10) (v := (.slice p.A3 p.l3.length p.c3)) rfl (by kernel_rfl) (by kernel_rfl) (by kernel_rfl) (fun c a w h => X1.hp c a 13 _ w h) (Or.inl ⟨by rfl, fun W2 h2 => by have g := p6; have c0 : W2.cell? ⟨g1, 3, none⟩ = some (.slice p.A3 p.l3.length p.c3) := (blk_cell h2.2 3).trans rfl; unfold o10; go_simp⟩) d0 ?_
  obtain ⟨b7, hb⟩ : ∃ b, b = st b6 13 (.slice p.A3 p.l3.length p.c3) := ⟨_, rfl⟩
  rw [show (Act.put b6 o10.dst (.slice p.A3 p.l3.length p.c3)) = b7 by rw [hb]; rfl]
  have hs8 : Aside0 (b7.tmps.size = 20) := ⟨by rw [hb]; exact Array.size_setIfInBounds.trans hs7.out⟩
  have fa7 : Fa D a0 b7 := by rw [hb]; exact Fa.put (fa6) (by decide) _
  have p7 : at_ b7 13 (.slice p.A3 p.l3.length p.c3) := by rw [hb]; exact st_eq (by rw [hs7.out]; decide)
  replace f1 : at_ b7 1 (pt g1) := by rw [hb]; exact st_ne (by decide) f1
  replace k4 : at_ b7 4 (.int .i64 p.T) := by rw [hb]; exact st_ne (by decide) k4
  replace k6 : at_ b7 6 (.int .i64 p.E) := by rw [hb]; exact st_ne (by decide) k6
  replace k9 : at_ b7 9 (.slice p.A2 p.l2.length p.c2) := by rw [hb]; exact st_ne (by decide) k9
  have k13 := p7
  clear hb
  refine wpAnyH_take (i := 13) (oi := o13) (v := (.pointer (some ⟨g1, 4, none⟩))) rfl (by kernel_rfl) (by kernel_rfl) (by kernel_rfl) (fun c a w h => X1.hp c a 16 _ w h) (Or.inl ⟨by rfl, fun W2 h2 => by have g := f1; unfold o13; have hu := Try.underlying31; go_simp⟩) d0 ?_
  obtain ⟨b8, hb⟩ : ∃ b, b = st b7 16 (.pointer (some ⟨g1, 4, none⟩)) := ⟨_, rfl⟩
  rw [show (Act.put b7 o13.dst (.pointer (some ⟨g1, 4, none⟩))) = b8 by rw [hb]; rfl]
  have hs9 : Aside0 (b8.tmps.size = 20) := ⟨by rw [hb]; exact Array.size_setIfInBounds.trans hs8.out⟩
  have fa8 : Fa D a0 b8 := by rw [hb]; exact Fa.put (fa7) (by decide) _
  have p8 : at_ b8 16 (.pointer (some ⟨g1, 4, none⟩)) := by rw [hb]; exact st_eq (by rw [hs8.out]; decide)
  replace f1 : at_ b8 1 (pt g1) := by rw [hb]; exact st_ne (by decide) f1
  replace k4 : at_ b8 4 (.int .i64 p.T) := by rw [hb]; exact st_ne (by decide) k4
  replace k6 : at_ b8 6 (.int .i64 p.E) := by rw [hb]; exact st_ne (by decide) k6
  replace k9 : at_ b8 9 (.slice p.A2 p.l2.length p.c2) := by rw [hb]; exact st_ne (by decide) k9
  replace k13 : at_ b8 13 (.slice p.A3 p.l3.length p.c3) := by rw [hb]; exact st_ne (by decide) k13
  clear hb
  refine wpAnyH_take (i := 14) (oi := o14) (v := (.slice p.A4 p.l4.length p.c4)) rfl (by kernel_rfl) (by kernel_rfl) (by kernel_rfl) (fun c a w h => X1.hp c a 17 _ w h) (Or.inl ⟨by rfl, fun W2 h2 => by have g := p8; have c0 : W2.cell? ⟨g1, 4, none⟩ = some (.slice p.A4 p.l4.length p.c4) := (blk_cell h2.2 4).trans rfl; unfold o14; go_simp⟩) d0 ?_
  obtain ⟨b9, hb⟩ : ∃ b, b = st b8 17 (.slice p.A4 p.l4.length p.c4) := ⟨_, rfl⟩
  rw [show (Act.put b8 o14.dst (.slice p.A4 p.l4.length p.c4)) = b9 by rw [hb]; rfl]
  have hs10 : Aside0 (b9.tmps.size = 20) := ⟨by rw [hb]; exact Array.size_setIfInBounds.trans hs9.out⟩
  have fa9 : Fa D a0 b9 := by rw [hb]; exact Fa.put (fa8) (by decide) _
  have p9 : at_ b9 17 (.slice p.A4 p.l4.length p.c4) := by rw [hb]; exact st_eq (by rw [hs9.out]; decide)
  replace f1 : at_ b9 1 (pt g1) := by rw [hb]; exact st_ne (by decide) f1
  replace k4 : at_ b9 4 (.int .i64 p.T) := by rw [hb]; exact st_ne (by decide) k4
  replace k6 : at_ b9 6 (.int .i64 p.E) := by rw [hb]; exact st_ne (by decide) k6
  replace k9 : at_ b9 9 (.slice p.A2 p.l2.length p.c2) := by rw [hb]; exact st_ne (by decide) k9
  replace k13 : at_ b9 13 (.slice p.A3 p.l3.length p.c3) := by rw [hb]; exact st_ne (by decide) k13
  have k17 := p9
  clear hb
  exact node0000 X1 ⟨fa9, s0, k4, k6, k9, k13, k17, ⟨(fun _ e => nomatch e), (fun _ e => nomatch e), (fun _ e => nomatch e), (fun _ _ _ e => nomatch e)⟩, (fun _ e => nomatch e), (fun _ e => nomatch e), (fun _ e => nomatch e)⟩
end
end Ownl
set_option maxHeartbeats 8000000 in
theorem spec_l04Own.calls (a0_0 : Int) (a0_1 : Int) (A0_2 : Option Addr) (c0_2 : Nat) (l0_2 : List Int) (A0_3 : Option Addr) (c0_3 : Nat) (l0_3 : List (S74)) (A0_4 : Option Addr) (c0_4 : Nat) (l0_4 : List Int) (r1 : Int) (r2 : Int) (r3 : List Int) (r4 : List (S74)) (r5 : List Int) (w : World) (hr0_2 : Kd.C (Kd.int .i64) w A0_2 l0_2.length l0_2) (hc0_2 : l0_2.length ≤ c0_2) (hr0_3 : Kd.C k74 w A0_3 l0_3.length l0_3) (hc0_3 : l0_3.length ≤ c0_3) (hr0_4 : Kd.C (Kd.int .i64) w A0_4 l0_4.length l0_4) (hc0_4 : l0_4.length ≤ c0_4) (h : spec_l04Own.f a0_0 a0_1 l0_2 l0_3 l0_4 = some (r1, r2, r3, r4, r5)) :
  Calls Try.prog 29 #[.agg #[.int .i64 a0_0, .int .i64 a0_1, .slice A0_2 l0_2.length c0_2, .slice A0_3 l0_3.length c0_3, .slice A0_4 l0_4.length c0_4]] w fun e w' => ∃ v2_ v3_ v4_ : Value, e = .returned (.agg #[.int .i64 r1, .int .i64 r2, v2_, v3_, v4_]) ∧ Kd.R (Kd.int .i64) 3 w' w.heap.size (fun k_ => some k_ ≠ (v4_ : Value).ownBlock) v2_ r3 ∧ Kd.R k74 74 w' w.heap.size (fun _ => True) v3_ r4 ∧ Kd.R (Kd.int .i64) 3 w' w.heap.size (fun k_ => some k_ ≠ (v2_ : Value).ownBlock) v4_ r5 ∧ Below w.heap.size w w' := by
  have hu31 := Try.underlying31
  unfold spec_l04Own.f at h
  simp only [Option.bind_some, List.length_nil, Nat.zero_add, List.nil_append] at h
  split at h
  next n2 =>
    split at h
    next n3 =>
      split at h
      next n4 =>
        obtain ⟨rfl, rfl, rfl, rfl, rfl⟩ : a0_0 = r1 ∧ a0_1 = r2 ∧ l0_2 = r3 ∧ l0_3 = r4 ∧ l0_4 = r5 := by simpa using h
        clear h
        have b1 := blk_alloc (blk_new w (.cells #[.int .i64 a0_0, .int .i64 a0_1, .slice A0_2 l0_2.length c0_2, .slice A0_3 l0_3.length c0_3, .slice A0_4 l0_4.length c0_4] 31)) zS
        have b2 := blk_new (w.alloc (.cells #[.int .i64 a0_0, .int .i64 a0_1, .slice A0_2 l0_2.length c0_2, .slice A0_3 l0_3.length c0_3, .slice A0_4 l0_4.length c0_4] 31)) zS
        have d2 := below_alloc (below_alloc (Below.refl w.heap.size w) (.cells #[.int .i64 a0_0, .int .i64 a0_1, .slice A0_2 l0_2.length c0_2, .slice A0_3 l0_3.length c0_3, .slice A0_4 l0_4.length c0_4] 31)) zS
        rw [World.size_alloc] at b2
        have S0 := Aside0.mk (Ownl.Sx.mk d2 b1 b2)
        have HR := Aside0.mk (And.intro hr0_2 (And.intro hr0_3 hr0_4))
        have HN := Aside0.mk (And.intro n2 (And.intro n3 n4))
        clear b1 b2 d2 hr0_2 hr0_3 hr0_4 n2 n3 n4
        go_enter Try.func29, Try.ntmps29
        go_upto_region 1 with (fail)
        refine Ownl.whole (p := ⟨a0_0, a0_1, A0_2, c0_2, l0_2, A0_3, c0_3, l0_3, A0_4, c0_4, l0_4⟩) (w := w) (g1 := w.heap.size) (g2 := w.heap.size + 1) ⟨by rfl, by rfl, by omega, by rfl, S0.out, Nat.le_succ _, HR.out.1, HR.out.2.1, HR.out.2.2, HN.out.1, HN.out.2.1, HN.out.2.2, fun _ _ _ _ _ h => h, ?_⟩ rfl
        intro t u v z W hd h2 d b r
        have h2 : t.tmps.getD 2 undef = .pointer (some ⟨w.heap.size + 1, 0, none⟩) := by simpa using h2
        go_wp2
        refine bodyPost_ret (results_cell_row rfl _ _ _ 31 #[.int .i64 a0_0, .int .i64 a0_1, u, v, z] (0, 0) _ h2 b Try.underlying31 rfl (by kernel_rfl)) hd ?_
        exact ⟨u, v, z, rfl, Kd.R_reok rfl (r.x u rfl) (fun k hk e => r.xz u z k rfl rfl hk e.symm), r.y v rfl, Kd.R_reok rfl (r.z z rfl) (fun k hk e => r.xz u z k rfl rfl e.symm hk), d⟩
      next => cases h
    next => cases h
  next => cases h
end Go.Proofs.Ytcnkacbgcmnokaa.XR
