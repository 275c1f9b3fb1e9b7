/- Three statements of the law of one step, each a region that draws its order and makes two boxes: what holds behind it in whatever order. -/
import Derived.Test.YtcnkacbgcmnokaaLawpA
import Derived.Test.YtcnkacbgcmnokaaRoomy
import Derived.Deep.RegionLaw
namespace Go.Proofs.Ytcnkacbgcmnokaa.XA.Law
open Go Go.RowKit Go.Proofs.YtcnkacbgcmnokaaW.PrintWords Go.Proofs.YtcnkacbgcmnokaaW.PrintLast Go.Proofs.YtcnkacbgcmnokaaW.PrintMore Go.Proofs.Ytcnkacbgcmnokaa.XA Go.Proofs.Ytcnkacbgcmnokaa.XA.Room Go.Proofs.Ytcnkacbgcmnokaa.XA.Fram
set_option linter.unusedVariables false
set_option linter.unusedSimpArgs false
structure Dt where
  x0 : Int
  x1 : Int
  x2 : Value
  x3 : Value
  x4 : Value
  y0 : Int
  y1 : Int
  T : Int
  F : Int
  code : Int
  err : Int
  J1 : Value → World → Prop
  J3 : Value → Value → Value → Value → World → Prop
def Dt.A (p : Dt) : Value := .agg #[.int .i64 p.x0, .int .i64 p.x1, p.x2, p.x3, p.x4]
def Dt.B (p : Dt) : Value := .agg #[.int .i64 p.y0, .int .i64 p.y1]
structure Us where
  u2 : Value
  u3 : Value
  u4 : Value
  u5 : Value
def Dt.S (p : Dt) (u : Us) : Value := .agg #[.int .i64 p.T, .int .i64 p.F, u.u2, u.u3, u.u4]
def Dt.R (p : Dt) (u : Us) : Value := .agg #[.int .i64 p.code, u.u5]
def Dt.E (p : Dt) : Value := .int .i64 p.err
def Dt.U (p : Dt) (u : Us) : Value := .tuple #[p.S u, p.R u, p.E]
def Dt.J (p : Dt) (u : Us) (W : World) : Prop := p.J3 u.u2 u.u3 u.u4 u.u5 W
/-- What is asked of the results' facts. -/
structure Ok (p : Dt) : Prop where
  s1 : ∀ v W W', p.J1 v W → Below W.heap.size W W' → p.J1 v W'
  s3 : ∀ u W W', p.J u W → Below W.heap.size W W' → p.J u W'
  t3 : ∀ u W g t cs, p.J u W → W.heap[g]? = some (.cells cs t (0, 0)) → t = 31 ∨ t = 33 → ∀ j v, p.J u (W.setCell ⟨g, j, none⟩ v)
  o3 : ∀ u W, p.J u W → u.u2.oneCell' = true ∧ u.u3.oneCell' = true ∧ u.u4.oneCell' = true ∧ u.u5.oneCell' = true
/-- A space stored. -/
def five (p : Dt) (u : Us) (g : Nat) (W : World) : World := (((((W.setCell ⟨g, 0, none⟩ (.int .i64 p.T)).setCell ⟨g, 1, none⟩ (.int .i64 p.F)).setCell ⟨g, 2, none⟩ u.u2).setCell ⟨g, 3, none⟩ u.u3).setCell ⟨g, 4, none⟩ u.u4)
def two (p : Dt) (u : Us) (g : Nat) (W : World) : World := ((W.setCell ⟨g, 0, none⟩ (.int .i64 p.code)).setCell ⟨g, 1, none⟩ u.u5)
theorem five_told {p : Dt} {u : Us} {w W : World} {g h : Nat} (O : Ok p) (d : Below w.heap.size w W) (l : w.heap.size ≤ g) (b : W.heap[g]? = some zS) (b' : W.heap[h]? = some zR) (j : p.J u W) :
    Below w.heap.size w (five p u g W) ∧ (five p u g W).heap[g]? = some (.cells #[.int .i64 p.T, .int .i64 p.F, u.u2, u.u3, u.u4] 31 (0, 0)) ∧ (five p u g W).heap[h]? = some zR ∧ p.J u (five p u g W) := by
  have n : h ≠ g := (by intro e; subst e; rw [b] at b'; injection b' with b'; injection b' with _ b'; exact absurd b' (by decide))
  have i0 := O.t3 u _ g 31 _ j b (.inl rfl) 0 (.int .i64 p.T)
  have i1 := O.t3 u _ g 31 _ i0 (blk_set b 0 _) (.inl rfl) 1 (.int .i64 p.F)
  have i2 := O.t3 u _ g 31 _ i1 (blk_set (blk_set b 0 _) 1 _) (.inl rfl) 2 u.u2
  have i3 := O.t3 u _ g 31 _ i2 (blk_set (blk_set (blk_set b 0 _) 1 _) 2 _) (.inl rfl) 3 u.u3
  exact ⟨five_below d l, put5 b, blk_far (blk_far (blk_far (blk_far (blk_far b' (p := ⟨g, 0, none⟩) n _) (p := ⟨g, 1, none⟩) n _) (p := ⟨g, 2, none⟩) n _) (p := ⟨g, 3, none⟩) n _) (p := ⟨g, 4, none⟩) n _, O.t3 u _ g 31 _ i3 (blk_set (blk_set (blk_set (blk_set b 0 _) 1 _) 2 _) 3 _) (.inl rfl) 4 u.u4⟩
theorem two_told {p : Dt} {u : Us} {w W : World} {g h : Nat} {cs : Array Value} (O : Ok p) (d : Below w.heap.size w W) (l : w.heap.size ≤ h) (b : W.heap[g]? = some (.cells cs 31 (0, 0))) (b' : W.heap[h]? = some zR) (j : p.J u W) :
    Below w.heap.size w (two p u h W) ∧ (two p u h W).heap[g]? = some (.cells cs 31 (0, 0)) ∧ (two p u h W).heap[h]? = some (.cells #[.int .i64 p.code, u.u5] 33 (0, 0)) ∧ p.J u (two p u h W) := by
  have n : g ≠ h := (by intro e; subst e; rw [b] at b'; injection b' with b'; injection b' with _ b'; exact absurd b' (by decide))
  have i5 := O.t3 u _ h 33 _ j b' (.inr rfl) 0 (.int .i64 p.code)
  exact ⟨(d.setCell (p := ⟨h, 0, none⟩) l _).setCell (p := ⟨h, 1, none⟩) l _, blk_far (blk_far b (p := ⟨h, 0, none⟩) n _) (p := ⟨h, 1, none⟩) n _, put2 b', O.t3 u _ h 33 _ i5 (blk_set b' 0 _) (.inr rfl) 1 u.u5⟩
namespace R5
def o0 : Oper := ⟨some 25, Op.load 25 (Operand.tmp 2), 25, "exact.go:5966", #[], none⟩
def o1 : Oper := ⟨some 26, Op.call { callee := Callee.value (Operand.func 7), args := #[Operand.tmp 25], argTypes := #[25] }, 31, "exact.go:5966", #[da 0], none⟩
def o2 : Oper := ⟨some 27, Op.load 27 (Operand.tmp 3), 27, "exact.go:5966", #[], none⟩
def o3 : Oper := ⟨some 28, Op.call { callee := Callee.value (Operand.func 8), args := #[Operand.tmp 27], argTypes := #[27] }, 37, "exact.go:5966", #[da 2, cn 1], none⟩
def o4 : Oper := ⟨some 29, Op.call { callee := Callee.value (Operand.func 6), args := #[Operand.tmp 26, Operand.tmp 28], argTypes := #[31, 37] }, 34, "exact.go:5966", #[da 1, da 3, cn 3], none⟩
def o5 : Oper := ⟨some 24, Op.move (Operand.tmp 29), 34, "exact.go:5966", #[da 4], none⟩
def o6 : Oper := ⟨some 30, Op.extract (Operand.tmp 24) 0, 31, "exact.go:5966", #[da 5], none⟩
def o7 : Oper := ⟨some 31, Op.extract (Operand.tmp 24) 1, 33, "exact.go:5966", #[da 5, gc 11], none⟩
def o8 : Oper := ⟨some 32, Op.extract (Operand.tmp 24) 2, 3, "exact.go:5966", #[da 5, gc 12], none⟩
def o9 : Oper := ⟨some 6, Op.alloc 31, 0, "exact.go:5966", #[], none⟩
def o10 : Oper := ⟨some 7, Op.alloc 33, 0, "exact.go:5966", #[], none⟩
def o11 : Oper := ⟨none, Op.store 31 (Operand.tmp 6) (Operand.tmp 30), 0, "exact.go:5966", #[da 9, da 6, cn 4, ph 0, ph 1, ph 2, ph 3, ph 4, ph 5, ph 6, tx 7, tx 8, ph 9, ph 10], none⟩
def o12 : Oper := ⟨none, Op.store 33 (Operand.tmp 7) (Operand.tmp 31), 0, "exact.go:5966", #[da 10, da 7, cn 11, ph 0, ph 1, ph 2, ph 3, ph 4, ph 5, ph 6, ph 7, tx 8, ph 9, ph 10, ph 11], none⟩
def o13 : Oper := ⟨some 8, Op.assign (Operand.tmp 32), 3, "exact.go:5966", #[da 8, cn 12, ph 0, ph 1, ph 2, ph 3, ph 4, ph 5, ph 6, ph 7, ph 8, ph 9, ph 10, ph 11, ph 12], none⟩
def ops : Array Oper := #[o0, o1, o2, o3, o4, o5, o6, o7, o8, o9, o10, o11, o12, o13]
def D : List Nat := [25, 27, 26, 28, 29, 24, 30, 31, 32, 6, 7, 8]
/-- What has come up: the loads, c calls, the boxes, and the results apart. -/
def L (c : Nat) (x y t : Bool) : Array Bool := #[true, Nat.blt 0 c, true, Nat.blt 1 c, Nat.blt 2 c, t, t, t, t, x, y, false, false, false]
/-- What is known at the region's beginning, and what is asked behind it. -/
structure Cx (p : Dt) (a0 : Act) (w : World) (Q : Exit → Act → World → Prop) (ga gb : Nat) : Prop where
  ok : Ok p
  sz : a0.tmps.size = 141
  pa : at_ a0 2 (pt ga)
  pb : at_ a0 3 (pt gb)
  ya : ∀ W, Below w.heap.size w W → W.cell? ⟨ga, 0, none⟩ = some (.int .i64 p.x0) ∧ W.cell? ⟨ga, 1, none⟩ = some (.int .i64 p.x1) ∧ W.cell? ⟨ga, 2, none⟩ = some p.x2 ∧ W.cell? ⟨ga, 3, none⟩ = some p.x3 ∧ W.cell? ⟨ga, 4, none⟩ = some p.x4
  yb : ∀ W, Below w.heap.size w W → W.cell? ⟨gb, 0, none⟩ = some (.int .i64 p.y0) ∧ W.cell? ⟨gb, 1, none⟩ = some (.int .i64 p.y1)
  c0 : ∀ W, Below w.heap.size w W → Calls Try.prog 7 #[p.A] W fun e W' => ∃ v, e = .returned v ∧ p.J1 v W' ∧ Below W.heap.size W W'
  c1 : ∀ W, Below w.heap.size w W → Calls Try.prog 8 #[p.B] W fun e W' => e = .returned p.B ∧ Below W.heap.size W W'
  c2 : ∀ v W, Below w.heap.size w W → p.J1 v W → Calls Try.prog 6 #[v, p.B] W fun e W' => ∃ u, e = .returned (p.U u) ∧ p.J u W' ∧ Below W.heap.size W W'
  hp : ∀ c a d v W, Q (.panic c) (st a d v) W → Q (.panic c) a W
  hq : ∀ (z : Nat → Value) (u : Us) (g h : Nat) (W : World), Below w.heap.size w W → p.J u W → w.heap.size ≤ g → w.heap.size ≤ h → W.heap[g]? = some (.cells #[.int .i64 p.T, .int .i64 p.F, u.u2, u.u3, u.u4] 31 (0, 0)) → W.heap[h]? = some (.cells #[.int .i64 p.code, u.u5] 33 (0, 0)) → Q .normal ⟨((((((((((((a0.tmps.setIfInBounds 8 (p.E)).setIfInBounds 7 (pt h)).setIfInBounds 6 (pt g)).setIfInBounds 32 (z 32)).setIfInBounds 31 (z 31)).setIfInBounds 30 (z 30)).setIfInBounds 24 (z 24)).setIfInBounds 29 (z 29)).setIfInBounds 28 (z 28)).setIfInBounds 26 (z 26)).setIfInBounds 27 (z 27)).setIfInBounds 25 (z 25)), a0.defers⟩ W
section
variable {p : Dt} {a0 a : Act} {w W : World} {Q : Exit → Act → World → Prop} {ga gb g h c : Nat} {x y : Option Nat} {v : Value} {u : Us} {K : Act → World → Prop}
/-- Behind c of the calls, with these boxes made. -/
structure Nd (p : Dt) (a0 : Act) (w : World) (v : Value) (u : Us) (c : Nat) (x y : Option Nat) (a : Act) (W : World) : Prop where
  fa : Fa D a0 a
  d : Below w.heap.size w W
  ea : at_ a 25 p.A
  eb : at_ a 27 p.B
  e0 : 1 ≤ c → at_ a 26 v ∧ p.J1 v W
  e1 : 2 ≤ c → at_ a 28 p.B
  e2 : 3 ≤ c → at_ a 29 (p.U u) ∧ p.J u W
  e6 : ∀ g, x = some g → at_ a 6 (pt g) ∧ W.heap[g]? = some zS ∧ w.heap.size ≤ g
  e7 : ∀ g, y = some g → at_ a 7 (pt g) ∧ W.heap[g]? = some zR ∧ w.heap.size ≤ g
theorem Nd.a6 (X : Cx p a0 w Q ga gb)  (H : Nd p a0 w v u c none y a W) : Nd p a0 w v u c (some W.heap.size) y (st a 6 (pt W.heap.size)) (W.alloc zS) :=
  have hB : Below W.heap.size W (W.alloc zS) := below_alloc (Below.refl _ _) _
  ⟨H.fa.put (by decide) _, below_step H.d hB, st_ne (by decide) H.ea, st_ne (by decide) H.eb, fun h => ⟨st_ne (by decide) (H.e0 h).1, X.ok.s1 _ _ _ (H.e0 h).2 hB⟩, fun h => st_ne (by decide) (H.e1 h), fun h => ⟨st_ne (by decide) (H.e2 h).1, X.ok.s3 _ _ _ (H.e2 h).2 hB⟩, fun g hg => by cases hg; exact ⟨st_eq (by rw [H.fa.sz, X.sz]; decide), blk_new _ _, H.d.size⟩, fun g hg => ⟨st_ne (by decide) (H.e7 g hg).1, blk_below (H.e7 g hg).2.1 hB, (H.e7 g hg).2.2⟩⟩
theorem Nd.a7 (X : Cx p a0 w Q ga gb)  (H : Nd p a0 w v u c x none a W) : Nd p a0 w v u c x (some W.heap.size) (st a 7 (pt W.heap.size)) (W.alloc zR) :=
  have hB : Below W.heap.size W (W.alloc zR) := below_alloc (Below.refl _ _) _
  ⟨H.fa.put (by decide) _, below_step H.d hB, st_ne (by decide) H.ea, st_ne (by decide) H.eb, fun h => ⟨st_ne (by decide) (H.e0 h).1, X.ok.s1 _ _ _ (H.e0 h).2 hB⟩, fun h => st_ne (by decide) (H.e1 h), fun h => ⟨st_ne (by decide) (H.e2 h).1, X.ok.s3 _ _ _ (H.e2 h).2 hB⟩, fun g hg => ⟨st_ne (by decide) (H.e6 g hg).1, blk_below (H.e6 g hg).2.1 hB, (H.e6 g hg).2.2⟩, fun g hg => by cases hg; exact ⟨st_eq (by rw [H.fa.sz, X.sz]; decide), blk_new _ _, H.d.size⟩⟩
theorem Nd.c0 (X : Cx p a0 w Q ga gb) {v' : Value} {W' : World} (hb : Below W.heap.size W W') (hj : p.J1 v' W') (H : Nd p a0 w v u 0 x y a W) : Nd p a0 w v' u 1 x y (st a 26 v') W' :=
  have hB : Below W.heap.size W W' := hb
  ⟨H.fa.put (by decide) _, below_step H.d hB, st_ne (by decide) H.ea, st_ne (by decide) H.eb, fun _ => ⟨st_eq (by rw [H.fa.sz, X.sz]; decide), hj⟩, fun h => absurd h (by decide), fun h => absurd h (by decide), fun g hg => ⟨st_ne (by decide) (H.e6 g hg).1, blk_below (H.e6 g hg).2.1 hB, (H.e6 g hg).2.2⟩, fun g hg => ⟨st_ne (by decide) (H.e7 g hg).1, blk_below (H.e7 g hg).2.1 hB, (H.e7 g hg).2.2⟩⟩
theorem Nd.c1 (X : Cx p a0 w Q ga gb) {W' : World} (hb : Below W.heap.size W W') (H : Nd p a0 w v u 1 x y a W) : Nd p a0 w v u 2 x y (st a 28 p.B) W' :=
  have hB : Below W.heap.size W W' := hb
  ⟨H.fa.put (by decide) _, below_step H.d hB, st_ne (by decide) H.ea, st_ne (by decide) H.eb, fun h => ⟨st_ne (by decide) (H.e0 (by decide)).1, X.ok.s1 _ _ _ (H.e0 (by decide)).2 hB⟩, fun _ => st_eq (by rw [H.fa.sz, X.sz]; decide), fun h => absurd h (by decide), fun g hg => ⟨st_ne (by decide) (H.e6 g hg).1, blk_below (H.e6 g hg).2.1 hB, (H.e6 g hg).2.2⟩, fun g hg => ⟨st_ne (by decide) (H.e7 g hg).1, blk_below (H.e7 g hg).2.1 hB, (H.e7 g hg).2.2⟩⟩
theorem Nd.c2 (X : Cx p a0 w Q ga gb) {u' : Us} {W' : World} (hb : Below W.heap.size W W') (hj : p.J u' W') (H : Nd p a0 w v u 2 x y a W) : Nd p a0 w v u' 3 x y (st a 29 (p.U u')) W' :=
  have hB : Below W.heap.size W W' := hb
  ⟨H.fa.put (by decide) _, below_step H.d hB, st_ne (by decide) H.ea, st_ne (by decide) H.eb, fun h => ⟨st_ne (by decide) (H.e0 (by decide)).1, X.ok.s1 _ _ _ (H.e0 (by decide)).2 hB⟩, fun h => st_ne (by decide) (H.e1 (by decide)), fun _ => ⟨st_eq (by rw [H.fa.sz, X.sz]; decide), hj⟩, fun g hg => ⟨st_ne (by decide) (H.e6 g hg).1, blk_below (H.e6 g hg).2.1 hB, (H.e6 g hg).2.2⟩, fun g hg => ⟨st_ne (by decide) (H.e7 g hg).1, blk_below (H.e7 g hg).2.1 hB, (H.e7 g hg).2.2⟩⟩
theorem run9 (h : K (st a 6 (pt W.heap.size)) (W.alloc zS)) : wpOp Try.prog ops Q 9 K a W := by
  refine wpOp_step (o := o9) rfl (fun K2 hK2 => ?_)
  unfold o9
  have hu := Try.underlying31
  go_simp
  exact hK2 _ _ h
theorem run10 (h : K (st a 7 (pt W.heap.size)) (W.alloc zR)) : wpOp Try.prog ops Q 10 K a W := by
  refine wpOp_step (o := o10) rfl (fun K2 hK2 => ?_)
  unfold o10
  have hu := Try.underlying33
  go_simp
  exact hK2 _ _ h
theorem run1 {z0 : Value} {R : Value → World → Prop} (g0 : at_ a 25 z0) (hc : Calls Try.prog 7 #[z0] W (fun e W' => ∃ v, e = .returned v ∧ R v W')) (h : ∀ v W', R v W' → K (st a 26 v) W') : wpOp Try.prog ops Q 1 K a W := by
  refine wpOp_step (o := o1) rfl (fun K2 hK2 => ?_)
  unfold o1
  have h_ := Aside0.mk h; clear h; have c_ := Aside0.mk hc; clear hc
  go_simp
  refine c_.out.mono ?_
  rintro e W' ⟨v_, rfl, hr⟩
  exact hK2 _ _ (h_.out _ _ hr)
theorem run3 {z0 : Value} {R : Value → World → Prop} (g0 : at_ a 27 z0) (hc : Calls Try.prog 8 #[z0] W (fun e W' => ∃ v, e = .returned v ∧ R v W')) (h : ∀ v W', R v W' → K (st a 28 v) W') : wpOp Try.prog ops Q 3 K a W := by
  refine wpOp_step (o := o3) rfl (fun K2 hK2 => ?_)
  unfold o3
  have h_ := Aside0.mk h; clear h; have c_ := Aside0.mk hc; clear hc
  go_simp
  refine c_.out.mono ?_
  rintro e W' ⟨v_, rfl, hr⟩
  exact hK2 _ _ (h_.out _ _ hr)
theorem run4 {z0 z1 : Value} {R : Value → World → Prop} (g0 : at_ a 26 z0) (g1 : at_ a 28 z1) (hc : Calls Try.prog 6 #[z0, z1] W (fun e W' => ∃ v, e = .returned v ∧ R v W')) (h : ∀ v W', R v W' → K (st a 29 v) W') : wpOp Try.prog ops Q 4 K a W := by
  refine wpOp_step (o := o4) rfl (fun K2 hK2 => ?_)
  unfold o4
  have h_ := Aside0.mk h; clear h; have c_ := Aside0.mk hc; clear hc
  go_simp
  refine c_.out.mono ?_
  rintro e W' ⟨v_, rfl, hr⟩
  exact hK2 _ _ (h_.out _ _ hr)
theorem run11 (g0 : at_ a 6 (pt g)) (g1 : at_ a 30 (p.S u)) (hb : W.heap[g]? = some zS) (w2 : u.u2.oneCell' = true) (w3 : u.u3.oneCell' = true) (w4 : u.u4.oneCell' = true) (h : K a (five p u g W)) : wpOp Try.prog ops Q 11 K a W := by
  refine wpOp_step (o := o11) rfl (fun K2 hK2 => ?_)
  unfold o11
  unfold Dt.S at g1
  have hu := Try.underlying31
  have r2 := fun W a m => run_store Try.prog W a u.u2 m w2
  have r3 := fun W a m => run_store Try.prog W a u.u3 m w3
  have r4 := fun W a m => run_store Try.prog W a u.u4 m w4
  have q0 := blk_cell hb 0
  have q1 := blk_cell hb 1
  have q2 := blk_cell hb 2
  have q3 := blk_cell hb 3
  have q4 := blk_cell hb 4
  have qf := blk_frozen hb
  have h_ := Aside0.mk h; clear h hb
  go_simp
  exact hK2 _ _ h_.out
theorem run12 (g0 : at_ a 7 (pt g)) (g1 : at_ a 31 (p.R u)) (hb : W.heap[g]? = some zR) (w5 : u.u5.oneCell' = true) (h : K a (two p u g W)) : wpOp Try.prog ops Q 12 K a W := by
  refine wpOp_step (o := o12) rfl (fun K2 hK2 => ?_)
  unfold o12
  unfold Dt.R at g1
  have hu := Try.underlying33
  have r5 := fun W a m => run_store Try.prog W a u.u5 m w5
  have q0 := blk_cell hb 0
  have q1 := blk_cell hb 1
  have qf := blk_frozen hb
  have h_ := Aside0.mk h; clear h hb
  go_simp
  exact hK2 _ _ h_.out
theorem run13 (g0 : at_ a 32 p.E) (h : K (st a 8 p.E) W) : wpOp Try.prog ops Q 13 K a W := by
  refine wpOp_step (o := o13) rfl (fun K2 hK2 => ?_)
  unfold o13
  have h_ := Aside0.mk h; clear h
  go_simp
  exact hK2 _ _ h_.out
def F (x y : Option Nat) : Nat := Nat.sub 1 x.isSome.toNat + Nat.sub 1 y.isSome.toNat
/-- As Nd behind all calls; the results are taken apart. -/
structure Ne (p : Dt) (a0 : Act) (w : World) (v : Value) (u : Us) (x y : Option Nat) (a : Act) (W : World) : Prop where
  n : Nd p a0 w v u 3 x y a W
  m : at_ a 24 (p.U u)
  q0 : at_ a 30 (p.S u)
  q1 : at_ a 31 (p.R u)
  q2 : at_ a 32 (p.E)
theorem Ne.a6 (X : Cx p a0 w Q ga gb) (H : Ne p a0 w v u none y a W) : Ne p a0 w v u (some W.heap.size) y (st a 6 (pt W.heap.size)) (W.alloc zS) :=
  ⟨H.n.a6 X, st_ne (by decide) H.m, st_ne (by decide) H.q0, st_ne (by decide) H.q1, st_ne (by decide) H.q2⟩
theorem Ne.a7 (X : Cx p a0 w Q ga gb) (H : Ne p a0 w v u x none a W) : Ne p a0 w v u x (some W.heap.size) (st a 7 (pt W.heap.size)) (W.alloc zR) :=
  ⟨H.n.a7 X, st_ne (by decide) H.m, st_ne (by decide) H.q0, st_ne (by decide) H.q1, st_ne (by decide) H.q2⟩
theorem Nd.put {d : Nat} (hd : d = 24 ∨ d = 30 ∨ d = 31 ∨ d = 32) (z : Value) (H : Nd p a0 w v u c x y a W) : Nd p a0 w v u c x y (st a d z) W := by
  have n : ∀ k, k ∈ [25, 27, 26, 28, 29, 6, 7] → d ≠ k := by rcases hd with rfl | rfl | rfl | rfl <;> decide
  exact ⟨H.fa.put (by rcases hd with rfl | rfl | rfl | rfl <;> decide) _, H.d, st_ne (n _ (by decide)) H.ea, st_ne (n _ (by decide)) H.eb, fun h => ⟨st_ne (n _ (by decide)) (H.e0 h).1, (H.e0 h).2⟩, fun h => st_ne (n _ (by decide)) (H.e1 h), fun h => ⟨st_ne (n _ (by decide)) (H.e2 h).1, (H.e2 h).2⟩, fun g hg => ⟨st_ne (n _ (by decide)) (H.e6 g hg).1, (H.e6 g hg).2⟩, fun g hg => ⟨st_ne (n _ (by decide)) (H.e7 g hg).1, (H.e7 g hg).2⟩⟩
theorem takes (X : Cx p a0 w Q ga gb) (H : Nd p a0 w v u 3 x y a W) (h : ∀ a2, Ne p a0 w v u x y a2 W → wpAnyH Try.prog .any ops Q (fun W => Below w.heap.size w W) (F x y + 3) (L 3 x.isSome y.isSome true) a2 W) : wpAnyH Try.prog .any ops Q (fun W => Below w.heap.size w W) (F x y + 7) (L 3 x.isSome y.isSome false) a W := by
  have h_ := Aside0.mk h; clear h
  have hs : Aside0 (a.tmps.size = 141) := ⟨H.fa.sz.trans X.sz⟩
  refine wpAnyH_take (i := 5) (oi := o5) (v := p.U u) rfl (by kernel_rfl) (by rcases x with _ | _ <;> rcases y with _ | _ <;> kernel_rfl) (by rcases x with _ | _ <;> rcases y with _ | _ <;> kernel_rfl) (fun c a w h => X.hp c a 24 _ w h) (Or.inl ⟨by rfl, fun w2 _ => by have g := (H.e2 (Nat.le_refl _)).1; unfold o5; go_simp⟩) H.d ?_
  obtain ⟨b0, hb0⟩ : ∃ b, b = st a 24 (p.U u) := ⟨_, rfl⟩
  rw [show (Act.put a o5.dst (p.U u)) = b0 by rw [hb0]; rfl]; have hu := Aside0.mk hb0; clear hb0; have hb0 := hu; clear hu
  have hs0 : Aside0 (b0.tmps.size = 141) := ⟨by rw [hb0.out]; exact Array.size_setIfInBounds.trans hs.out⟩
  have m0 : at_ b0 24 (p.U u) := by rw [hb0.out]; exact st_eq (by rw [hs.out]; decide)
  refine wpAnyH_take (i := 6) (oi := o6) (v := p.S u) rfl (by kernel_rfl) (by rcases x with _ | _ <;> rcases y with _ | _ <;> kernel_rfl) (by rcases x with _ | _ <;> rcases y with _ | _ <;> kernel_rfl) (fun c a w h => X.hp c a 30 _ w h) (Or.inl ⟨by rfl, fun w2 _ => by have g : p.U u = .tuple #[p.S u, p.R u, p.E] := rfl; unfold o6; go_simp⟩) H.d ?_
  obtain ⟨b1, hb1⟩ : ∃ b, b = st b0 30 (p.S u) := ⟨_, rfl⟩
  rw [show (Act.put b0 o6.dst (p.S u)) = b1 by rw [hb1]; rfl]; have hu := Aside0.mk hb1; clear hb1; have hb1 := hu; clear hu
  have hs1 : Aside0 (b1.tmps.size = 141) := ⟨by rw [hb1.out]; exact Array.size_setIfInBounds.trans hs0.out⟩
  have m1 : at_ b1 24 (p.U u) := by rw [hb1.out]; exact st_ne (by decide) m0
  refine wpAnyH_take (i := 7) (oi := o7) (v := p.R u) rfl (by kernel_rfl) (by rcases x with _ | _ <;> rcases y with _ | _ <;> kernel_rfl) (by rcases x with _ | _ <;> rcases y with _ | _ <;> kernel_rfl) (fun c a w h => X.hp c a 31 _ w h) (Or.inl ⟨by rfl, fun w2 _ => by have g : p.U u = .tuple #[p.S u, p.R u, p.E] := rfl; unfold o7; go_simp⟩) H.d ?_
  obtain ⟨b2, hb2⟩ : ∃ b, b = st b1 31 (p.R u) := ⟨_, rfl⟩
  rw [show (Act.put b1 o7.dst (p.R u)) = b2 by rw [hb2]; rfl]; have hu := Aside0.mk hb2; clear hb2; have hb2 := hu; clear hu
  have hs2 : Aside0 (b2.tmps.size = 141) := ⟨by rw [hb2.out]; exact Array.size_setIfInBounds.trans hs1.out⟩
  have m2 : at_ b2 24 (p.U u) := by rw [hb2.out]; exact st_ne (by decide) m1
  refine wpAnyH_take (i := 8) (oi := o8) (v := p.E) rfl (by kernel_rfl) (by rcases x with _ | _ <;> rcases y with _ | _ <;> kernel_rfl) (by rcases x with _ | _ <;> rcases y with _ | _ <;> kernel_rfl) (fun c a w h => X.hp c a 32 _ w h) (Or.inl ⟨by rfl, fun w2 _ => by have g : p.U u = .tuple #[p.S u, p.R u, p.E] := rfl; unfold o8; go_simp⟩) H.d ?_
  obtain ⟨b3, hb3⟩ : ∃ b, b = st b2 32 (p.E) := ⟨_, rfl⟩
  rw [show (Act.put b2 o8.dst (p.E)) = b3 by rw [hb3]; rfl]; have hu := Aside0.mk hb3; clear hb3; have hb3 := hu; clear hu
  have hs3 : Aside0 (b3.tmps.size = 141) := ⟨by rw [hb3.out]; exact Array.size_setIfInBounds.trans hs2.out⟩
  have m3 : at_ b3 24 (p.U u) := by rw [hb3.out]; exact st_ne (by decide) m2
  have n0 : Nd p a0 w v u 3 x y b0 W := by rw [hb0.out]; exact H.put (.inl rfl) _
  have n1 : Nd p a0 w v u 3 x y b1 W := by rw [hb1.out]; exact n0.put (.inr (.inl rfl)) _
  have n2 : Nd p a0 w v u 3 x y b2 W := by rw [hb2.out]; exact n1.put (.inr (.inr (.inl rfl))) _
  have n3 : Nd p a0 w v u 3 x y b3 W := by rw [hb3.out]; exact n2.put (.inr (.inr (.inr rfl))) _
  have q2 : at_ b3 32 (p.E) := by rw [hb3.out]; exact st_eq (by rw [hs2.out]; decide)
  have q1 : at_ b3 31 (p.R u) := by rw [hb3.out]; refine st_ne (by decide) ?_; rw [hb2.out]; exact st_eq (by rw [hs1.out]; decide)
  have q0 : at_ b3 30 (p.S u) := by rw [hb3.out]; refine st_ne (by decide) ?_; rw [hb2.out]; refine st_ne (by decide) ?_; rw [hb1.out]; exact st_eq (by rw [hs0.out]; decide)
  exact h_.out b3 ⟨n3, m3, q0, q1, q2⟩
/-- The tail: the results are stored. -/
theorem late11 (X : Cx p a0 w Q ga gb) (H : Ne p a0 w v u (some g) (some h) a W) : wpAnyH Try.prog .any ops Q (fun W => Below w.heap.size w W) (F (some g) (some h) + 3) (L 3 (some g).isSome (some h).isSome true) a W := by
  obtain ⟨z3, j3⟩ := H.n.e2 (Nat.le_refl _)
  obtain ⟨w2, w3, w4, w5⟩ := X.ok.o3 _ _ j3
  obtain ⟨z6, b6, l6⟩ := H.n.e6 _ rfl
  obtain ⟨z7, b7, l7⟩ := H.n.e7 _ rfl
  refine wpAnyH_all (rs := [11]) (by kernel_rfl) (by simp) ?_
  intro i hi; rw [List.mem_singleton.1 hi]
  refine run11 z6 H.q0 b6 w2 w3 w4 ?_
  obtain ⟨d1, c6, c7, i4⟩ := five_told X.ok H.n.d l6 b6 b7 j3
  refine ⟨d1, ?_⟩
  refine wpAnyH_all (rs := [12]) (by kernel_rfl) (by simp) ?_
  intro i hi; rw [List.mem_singleton.1 hi]
  refine run12 z7 H.q1 c7 w5 ?_
  obtain ⟨d2, y6, y7, i6⟩ := two_told X.ok d1 l7 c6 c7 i4
  refine ⟨d2, ?_⟩
  refine wpAnyH_all (rs := [13]) (by kernel_rfl) (by simp) ?_
  intro i hi; rw [List.mem_singleton.1 hi]
  refine run13 H.q2 ⟨d2, ?_⟩
  refine wpAnyH_done (by kernel_rfl) ?_ _
  have fb := H.n.fa.put (d := 8) (by decide) p.E
  have e := Fa.eqn D fb (fun d hd => by rw [X.sz]; revert d; decide)
  simp only [D, List.foldr_cons, List.foldr_nil] at e
  rw [get_eq (show 8 < a.tmps.size by rw [H.n.fa.sz, X.sz]; decide), (get_ne (show (8 : Nat) ≠ 6 by decide)).trans (z6), (get_ne (show (8 : Nat) ≠ 7 by decide)).trans (z7)] at e
  show Q .normal (st a 8 p.E) _
  rw [show st a 8 p.E = _ from e]
  exact X.hq (fun k => (a.tmps.setIfInBounds 8 p.E)[k]?.getD undef) u g h _ d2 i6 l6 l7 y6 y7
theorem late01 (X : Cx p a0 w Q ga gb) (H : Ne p a0 w v u (none : Option Nat) (some h) a W) : wpAnyH Try.prog .any ops Q (fun W => Below w.heap.size w W) (F (none : Option Nat) (some h) + 3) (L 3 (none : Option Nat).isSome (some h).isSome true) a W := by
  refine wpAnyH_all (rs := [9]) (by kernel_rfl) (by simp) ?_
  intro i hi
  simp only [List.mem_cons, List.not_mem_nil, or_false] at hi
  rcases hi with rfl
  · exact run9 ⟨(H.a6 X).n.d, late11 X (H.a6 X)⟩
theorem late10 (X : Cx p a0 w Q ga gb) (H : Ne p a0 w v u (some g) (none : Option Nat) a W) : wpAnyH Try.prog .any ops Q (fun W => Below w.heap.size w W) (F (some g) (none : Option Nat) + 3) (L 3 (some g).isSome (none : Option Nat).isSome true) a W := by
  refine wpAnyH_all (rs := [10]) (by kernel_rfl) (by simp) ?_
  intro i hi
  simp only [List.mem_cons, List.not_mem_nil, or_false] at hi
  rcases hi with rfl
  · exact run10 ⟨(H.a7 X).n.d, late11 X (H.a7 X)⟩
theorem late00 (X : Cx p a0 w Q ga gb) (H : Ne p a0 w v u (none : Option Nat) (none : Option Nat) a W) : wpAnyH Try.prog .any ops Q (fun W => Below w.heap.size w W) (F (none : Option Nat) (none : Option Nat) + 3) (L 3 (none : Option Nat).isSome (none : Option Nat).isSome true) a W := by
  refine wpAnyH_all (rs := [9, 10]) (by kernel_rfl) (by simp) ?_
  intro i hi
  simp only [List.mem_cons, List.not_mem_nil, or_false] at hi
  rcases hi with rfl | rfl
  · exact run9 ⟨(H.a6 X).n.d, late10 X (H.a6 X)⟩
  · exact run10 ⟨(H.a7 X).n.d, late01 X (H.a7 X)⟩
theorem node211 (X : Cx p a0 w Q ga gb) (H : Nd p a0 w v u 2 (some g) (some h) a W) : wpAnyH Try.prog .any ops Q (fun W => Below w.heap.size w W) (F (some g) (some h) + 8) (L 2 (some g).isSome (some h).isSome false) a W := by
  refine wpAnyH_all (rs := [4]) (by kernel_rfl) (by simp) ?_
  intro i hi
  simp only [List.mem_cons, List.not_mem_nil, or_false] at hi
  rcases hi with rfl
  · exact run4 (R := fun v' W' => ∃ u, v' = p.U u ∧ p.J u W' ∧ Below W.heap.size W W') (H.e0 (by decide)).1 (H.e1 (by decide)) ((X.c2 v W H.d (H.e0 (by decide)).2).mono (fun e W' he => by obtain ⟨u, he, hj, hb⟩ := he; exact ⟨_, he, u, rfl, hj, hb⟩)) (fun v' W' hr => by obtain ⟨u, rfl, hj, hb⟩ := hr; exact ⟨(H.c2 X hb hj).d, takes X (H.c2 X hb hj) (fun a2 h2 => late11 X h2)⟩)
theorem node201 (X : Cx p a0 w Q ga gb) (H : Nd p a0 w v u 2 (none : Option Nat) (some h) a W) : wpAnyH Try.prog .any ops Q (fun W => Below w.heap.size w W) (F (none : Option Nat) (some h) + 8) (L 2 (none : Option Nat).isSome (some h).isSome false) a W := by
  refine wpAnyH_all (rs := [4, 9]) (by kernel_rfl) (by simp) ?_
  intro i hi
  simp only [List.mem_cons, List.not_mem_nil, or_false] at hi
  rcases hi with rfl | rfl
  · exact run4 (R := fun v' W' => ∃ u, v' = p.U u ∧ p.J u W' ∧ Below W.heap.size W W') (H.e0 (by decide)).1 (H.e1 (by decide)) ((X.c2 v W H.d (H.e0 (by decide)).2).mono (fun e W' he => by obtain ⟨u, he, hj, hb⟩ := he; exact ⟨_, he, u, rfl, hj, hb⟩)) (fun v' W' hr => by obtain ⟨u, rfl, hj, hb⟩ := hr; exact ⟨(H.c2 X hb hj).d, takes X (H.c2 X hb hj) (fun a2 h2 => late01 X h2)⟩)
  · exact run9 ⟨(H.a6 X).d, node211 X (H.a6 X)⟩
theorem node210 (X : Cx p a0 w Q ga gb) (H : Nd p a0 w v u 2 (some g) (none : Option Nat) a W) : wpAnyH Try.prog .any ops Q (fun W => Below w.heap.size w W) (F (some g) (none : Option Nat) + 8) (L 2 (some g).isSome (none : Option Nat).isSome false) a W := by
  refine wpAnyH_all (rs := [4, 10]) (by kernel_rfl) (by simp) ?_
  intro i hi
  simp only [List.mem_cons, List.not_mem_nil, or_false] at hi
  rcases hi with rfl | rfl
  · exact run4 (R := fun v' W' => ∃ u, v' = p.U u ∧ p.J u W' ∧ Below W.heap.size W W') (H.e0 (by decide)).1 (H.e1 (by decide)) ((X.c2 v W H.d (H.e0 (by decide)).2).mono (fun e W' he => by obtain ⟨u, he, hj, hb⟩ := he; exact ⟨_, he, u, rfl, hj, hb⟩)) (fun v' W' hr => by obtain ⟨u, rfl, hj, hb⟩ := hr; exact ⟨(H.c2 X hb hj).d, takes X (H.c2 X hb hj) (fun a2 h2 => late10 X h2)⟩)
  · exact run10 ⟨(H.a7 X).d, node211 X (H.a7 X)⟩
theorem node200 (X : Cx p a0 w Q ga gb) (H : Nd p a0 w v u 2 (none : Option Nat) (none : Option Nat) a W) : wpAnyH Try.prog .any ops Q (fun W => Below w.heap.size w W) (F (none : Option Nat) (none : Option Nat) + 8) (L 2 (none : Option Nat).isSome (none : Option Nat).isSome false) a W := by
  refine wpAnyH_all (rs := [4, 9, 10]) (by kernel_rfl) (by simp) ?_
  intro i hi
  simp only [List.mem_cons, List.not_mem_nil, or_false] at hi
  rcases hi with rfl | rfl | rfl
  · exact run4 (R := fun v' W' => ∃ u, v' = p.U u ∧ p.J u W' ∧ Below W.heap.size W W') (H.e0 (by decide)).1 (H.e1 (by decide)) ((X.c2 v W H.d (H.e0 (by decide)).2).mono (fun e W' he => by obtain ⟨u, he, hj, hb⟩ := he; exact ⟨_, he, u, rfl, hj, hb⟩)) (fun v' W' hr => by obtain ⟨u, rfl, hj, hb⟩ := hr; exact ⟨(H.c2 X hb hj).d, takes X (H.c2 X hb hj) (fun a2 h2 => late00 X h2)⟩)
  · exact run9 ⟨(H.a6 X).d, node210 X (H.a6 X)⟩
  · exact run10 ⟨(H.a7 X).d, node201 X (H.a7 X)⟩
theorem node111 (X : Cx p a0 w Q ga gb) (H : Nd p a0 w v u 1 (some g) (some h) a W) : wpAnyH Try.prog .any ops Q (fun W => Below w.heap.size w W) (F (some g) (some h) + 9) (L 1 (some g).isSome (some h).isSome false) a W := by
  refine wpAnyH_all (rs := [3]) (by kernel_rfl) (by simp) ?_
  intro i hi
  simp only [List.mem_cons, List.not_mem_nil, or_false] at hi
  rcases hi with rfl
  · exact run3 (R := fun v W' => v = p.B ∧ Below W.heap.size W W') H.eb ((X.c1 W H.d).mono (fun e W' he => ⟨_, he.1, rfl, he.2⟩)) (fun v' W' hr => by obtain ⟨rfl, hb⟩ := hr; exact ⟨(H.c1 X hb).d, node211 X (H.c1 X hb)⟩)
theorem node101 (X : Cx p a0 w Q ga gb) (H : Nd p a0 w v u 1 (none : Option Nat) (some h) a W) : wpAnyH Try.prog .any ops Q (fun W => Below w.heap.size w W) (F (none : Option Nat) (some h) + 9) (L 1 (none : Option Nat).isSome (some h).isSome false) a W := by
  refine wpAnyH_all (rs := [3, 9]) (by kernel_rfl) (by simp) ?_
  intro i hi
  simp only [List.mem_cons, List.not_mem_nil, or_false] at hi
  rcases hi with rfl | rfl
  · exact run3 (R := fun v W' => v = p.B ∧ Below W.heap.size W W') H.eb ((X.c1 W H.d).mono (fun e W' he => ⟨_, he.1, rfl, he.2⟩)) (fun v' W' hr => by obtain ⟨rfl, hb⟩ := hr; exact ⟨(H.c1 X hb).d, node201 X (H.c1 X hb)⟩)
  · exact run9 ⟨(H.a6 X).d, node111 X (H.a6 X)⟩
theorem node110 (X : Cx p a0 w Q ga gb) (H : Nd p a0 w v u 1 (some g) (none : Option Nat) a W) : wpAnyH Try.prog .any ops Q (fun W => Below w.heap.size w W) (F (some g) (none : Option Nat) + 9) (L 1 (some g).isSome (none : Option Nat).isSome false) a W := by
  refine wpAnyH_all (rs := [3, 10]) (by kernel_rfl) (by simp) ?_
  intro i hi
  simp only [List.mem_cons, List.not_mem_nil, or_false] at hi
  rcases hi with rfl | rfl
  · exact run3 (R := fun v W' => v = p.B ∧ Below W.heap.size W W') H.eb ((X.c1 W H.d).mono (fun e W' he => ⟨_, he.1, rfl, he.2⟩)) (fun v' W' hr => by obtain ⟨rfl, hb⟩ := hr; exact ⟨(H.c1 X hb).d, node210 X (H.c1 X hb)⟩)
  · exact run10 ⟨(H.a7 X).d, node111 X (H.a7 X)⟩
theorem node100 (X : Cx p a0 w Q ga gb) (H : Nd p a0 w v u 1 (none : Option Nat) (none : Option Nat) a W) : wpAnyH Try.prog .any ops Q (fun W => Below w.heap.size w W) (F (none : Option Nat) (none : Option Nat) + 9) (L 1 (none : Option Nat).isSome (none : Option Nat).isSome false) a W := by
  refine wpAnyH_all (rs := [3, 9, 10]) (by kernel_rfl) (by simp) ?_
  intro i hi
  simp only [List.mem_cons, List.not_mem_nil, or_false] at hi
  rcases hi with rfl | rfl | rfl
  · exact run3 (R := fun v W' => v = p.B ∧ Below W.heap.size W W') H.eb ((X.c1 W H.d).mono (fun e W' he => ⟨_, he.1, rfl, he.2⟩)) (fun v' W' hr => by obtain ⟨rfl, hb⟩ := hr; exact ⟨(H.c1 X hb).d, node200 X (H.c1 X hb)⟩)
  · exact run9 ⟨(H.a6 X).d, node110 X (H.a6 X)⟩
  · exact run10 ⟨(H.a7 X).d, node101 X (H.a7 X)⟩
theorem node011 (X : Cx p a0 w Q ga gb) (H : Nd p a0 w v u 0 (some g) (some h) a W) : wpAnyH Try.prog .any ops Q (fun W => Below w.heap.size w W) (F (some g) (some h) + 10) (L 0 (some g).isSome (some h).isSome false) a W := by
  refine wpAnyH_all (rs := [1]) (by kernel_rfl) (by simp) ?_
  intro i hi
  simp only [List.mem_cons, List.not_mem_nil, or_false] at hi
  rcases hi with rfl
  · exact run1 H.ea (X.c0 W H.d) (fun v' W' hr => ⟨(H.c0 X hr.2 hr.1).d, node111 X (H.c0 X hr.2 hr.1)⟩)
theorem node001 (X : Cx p a0 w Q ga gb) (H : Nd p a0 w v u 0 (none : Option Nat) (some h) a W) : wpAnyH Try.prog .any ops Q (fun W => Below w.heap.size w W) (F (none : Option Nat) (some h) + 10) (L 0 (none : Option Nat).isSome (some h).isSome false) a W := by
  refine wpAnyH_all (rs := [1, 9]) (by kernel_rfl) (by simp) ?_
  intro i hi
  simp only [List.mem_cons, List.not_mem_nil, or_false] at hi
  rcases hi with rfl | rfl
  · exact run1 H.ea (X.c0 W H.d) (fun v' W' hr => ⟨(H.c0 X hr.2 hr.1).d, node101 X (H.c0 X hr.2 hr.1)⟩)
  · exact run9 ⟨(H.a6 X).d, node011 X (H.a6 X)⟩
theorem node010 (X : Cx p a0 w Q ga gb) (H : Nd p a0 w v u 0 (some g) (none : Option Nat) a W) : wpAnyH Try.prog .any ops Q (fun W => Below w.heap.size w W) (F (some g) (none : Option Nat) + 10) (L 0 (some g).isSome (none : Option Nat).isSome false) a W := by
  refine wpAnyH_all (rs := [1, 10]) (by kernel_rfl) (by simp) ?_
  intro i hi
  simp only [List.mem_cons, List.not_mem_nil, or_false] at hi
  rcases hi with rfl | rfl
  · exact run1 H.ea (X.c0 W H.d) (fun v' W' hr => ⟨(H.c0 X hr.2 hr.1).d, node110 X (H.c0 X hr.2 hr.1)⟩)
  · exact run10 ⟨(H.a7 X).d, node011 X (H.a7 X)⟩
theorem node000 (X : Cx p a0 w Q ga gb) (H : Nd p a0 w v u 0 (none : Option Nat) (none : Option Nat) a W) : wpAnyH Try.prog .any ops Q (fun W => Below w.heap.size w W) (F (none : Option Nat) (none : Option Nat) + 10) (L 0 (none : Option Nat).isSome (none : Option Nat).isSome false) a W := by
  refine wpAnyH_all (rs := [1, 9, 10]) (by kernel_rfl) (by simp) ?_
  intro i hi
  simp only [List.mem_cons, List.not_mem_nil, or_false] at hi
  rcases hi with rfl | rfl | rfl
  · exact run1 H.ea (X.c0 W H.d) (fun v' W' hr => ⟨(H.c0 X hr.2 hr.1).d, node100 X (H.c0 X hr.2 hr.1)⟩)
  · exact run9 ⟨(H.a6 X).d, node010 X (H.a6 X)⟩
  · exact run10 ⟨(H.a7 X).d, node001 X (H.a7 X)⟩
/-- The region. -/
theorem whole (X : Cx p a0 w Q ga gb) : (Code.region 5 ops true).wp Try.prog Q a0 w := by
  refine wp_region_held_drew (S := (fun W => Below w.heap.size w W)) (by kernel_rfl) (below_drew (Below.refl _ _)) (fun d0 => ?_)
  refine wpAnyH_take (i := 0) (oi := o0) (v := p.A) rfl (by kernel_rfl) (by kernel_rfl) (by kernel_rfl) (fun c a w h => X.hp c a 25 _ w h) (Or.inl ⟨by rfl, fun W2 h2 => ?p0⟩) d0 ?r0
  case p0 =>
    have hu := Try.underlying25
    have h0 := X.pa
    obtain ⟨h1, h3, h4, h5, h6⟩ := X.ya W2 h2
    unfold o0 Dt.A
    go_simp
  refine wpAnyH_take (i := 2) (oi := o2) (v := p.B) rfl (by kernel_rfl) (by kernel_rfl) (by kernel_rfl) (fun c a w h => X.hp c a 27 _ w h) (Or.inl ⟨by rfl, fun W2 h2 => ?p1⟩) d0 ?r1
  case p1 =>
    have hu := Try.underlying27
    have h0 := X.pb
    obtain ⟨h1, h3⟩ := X.yb W2 h2
    unfold o2 o0 Dt.B
    go_simp
  have q1 : (st a0 25 p.A).tmps.size = 141 := Array.size_setIfInBounds.trans X.sz
  have H : Nd p a0 w undef ⟨undef, undef, undef, undef⟩ 0 none none (st (st a0 25 p.A) 27 p.B) w.drew := ⟨((Fa.refl D a0).put (d := 25) (by decide) _).put (d := 27) (by decide) _, d0, st_ne (by decide) (st_eq (by rw [X.sz]; decide)), st_eq (by rw [q1]; decide), fun h => absurd h (by decide), fun h => absurd h (by decide), fun h => absurd h (by decide), fun g hg => absurd hg (by simp), fun g hg => absurd hg (by simp)⟩
  exact node000 X H
end
end R5
namespace R7
def o0 : Oper := ⟨some 36, Op.load 31 (Operand.tmp 9), 31, "exact.go:5968", #[], none⟩
def o1 : Oper := ⟨some 37, Op.load 27 (Operand.tmp 3), 27, "exact.go:5968", #[], none⟩
def o2 : Oper := ⟨some 38, Op.call { callee := Callee.value (Operand.func 8), args := #[Operand.tmp 37], argTypes := #[27] }, 37, "exact.go:5968", #[da 1], none⟩
def o3 : Oper := ⟨some 39, Op.call { callee := Callee.value (Operand.func 9), args := #[Operand.tmp 36, Operand.tmp 38], argTypes := #[31, 37] }, 34, "exact.go:5968", #[da 0, da 2, cn 2], none⟩
def o4 : Oper := ⟨some 35, Op.move (Operand.tmp 39), 34, "exact.go:5968", #[da 3], none⟩
def o5 : Oper := ⟨some 40, Op.extract (Operand.tmp 35) 0, 31, "exact.go:5968", #[da 4], none⟩
def o6 : Oper := ⟨some 41, Op.extract (Operand.tmp 35) 1, 33, "exact.go:5968", #[da 4, gc 10], none⟩
def o7 : Oper := ⟨some 42, Op.extract (Operand.tmp 35) 2, 3, "exact.go:5968", #[da 4, gc 11], none⟩
def o8 : Oper := ⟨some 10, Op.alloc 31, 0, "exact.go:5968", #[], none⟩
def o9 : Oper := ⟨some 11, Op.alloc 33, 0, "exact.go:5968", #[], none⟩
def o10 : Oper := ⟨none, Op.store 31 (Operand.tmp 10) (Operand.tmp 40), 0, "exact.go:5968", #[da 8, da 5, cn 3, ph 0, ph 1, ph 2, ph 3, ph 4, ph 5, tx 6, tx 7, ph 8, ph 9], none⟩
def o11 : Oper := ⟨none, Op.store 33 (Operand.tmp 11) (Operand.tmp 41), 0, "exact.go:5968", #[da 9, da 6, cn 10, ph 0, ph 1, ph 2, ph 3, ph 4, ph 5, ph 6, tx 7, ph 8, ph 9, ph 10], none⟩
def o12 : Oper := ⟨some 12, Op.assign (Operand.tmp 42), 3, "exact.go:5968", #[da 7, cn 11, ph 0, ph 1, ph 2, ph 3, ph 4, ph 5, ph 6, ph 7, ph 8, ph 9, ph 10, ph 11], none⟩
def ops : Array Oper := #[o0, o1, o2, o3, o4, o5, o6, o7, o8, o9, o10, o11, o12]
def D : List Nat := [36, 37, 38, 39, 35, 40, 41, 42, 10, 11, 12]
/-- What has come up: the loads, c calls, the boxes, and the results apart. -/
def L (c : Nat) (x y t : Bool) : Array Bool := #[true, true, Nat.blt 0 c, Nat.blt 1 c, t, t, t, t, x, y, false, false, false]
/-- What is known at the region's beginning, and what is asked behind it. -/
structure Cx (p : Dt) (a0 : Act) (w : World) (Q : Exit → Act → World → Prop) (ga gb : Nat) : Prop where
  ok : Ok p
  sz : a0.tmps.size = 141
  pa : at_ a0 9 (pt ga)
  pb : at_ a0 3 (pt gb)
  ya : ∀ W, Below w.heap.size w W → W.cell? ⟨ga, 0, none⟩ = some (.int .i64 p.x0) ∧ W.cell? ⟨ga, 1, none⟩ = some (.int .i64 p.x1) ∧ W.cell? ⟨ga, 2, none⟩ = some p.x2 ∧ W.cell? ⟨ga, 3, none⟩ = some p.x3 ∧ W.cell? ⟨ga, 4, none⟩ = some p.x4
  yb : ∀ W, Below w.heap.size w W → W.cell? ⟨gb, 0, none⟩ = some (.int .i64 p.y0) ∧ W.cell? ⟨gb, 1, none⟩ = some (.int .i64 p.y1)
  c1 : ∀ W, Below w.heap.size w W → Calls Try.prog 8 #[p.B] W fun e W' => e = .returned p.B ∧ Below W.heap.size W W'
  c2 : ∀ W, Below w.heap.size w W → Calls Try.prog 9 #[p.A, p.B] W fun e W' => ∃ u, e = .returned (p.U u) ∧ p.J u W' ∧ Below W.heap.size W W'
  hp : ∀ c a d v W, Q (.panic c) (st a d v) W → Q (.panic c) a W
  hq : ∀ (z : Nat → Value) (u : Us) (g h : Nat) (W : World), Below w.heap.size w W → p.J u W → w.heap.size ≤ g → w.heap.size ≤ h → W.heap[g]? = some (.cells #[.int .i64 p.T, .int .i64 p.F, u.u2, u.u3, u.u4] 31 (0, 0)) → W.heap[h]? = some (.cells #[.int .i64 p.code, u.u5] 33 (0, 0)) → Q .normal ⟨(((((((((((a0.tmps.setIfInBounds 12 (p.E)).setIfInBounds 11 (pt h)).setIfInBounds 10 (pt g)).setIfInBounds 42 (z 42)).setIfInBounds 41 (z 41)).setIfInBounds 40 (z 40)).setIfInBounds 35 (z 35)).setIfInBounds 39 (z 39)).setIfInBounds 38 (z 38)).setIfInBounds 37 (z 37)).setIfInBounds 36 (z 36)), a0.defers⟩ W
section
variable {p : Dt} {a0 a : Act} {w W : World} {Q : Exit → Act → World → Prop} {ga gb g h c : Nat} {x y : Option Nat} {v : Value} {u : Us} {K : Act → World → Prop}
/-- Behind c of the calls, with these boxes made. -/
structure Nd (p : Dt) (a0 : Act) (w : World) (v : Value) (u : Us) (c : Nat) (x y : Option Nat) (a : Act) (W : World) : Prop where
  fa : Fa D a0 a
  d : Below w.heap.size w W
  ea : at_ a 36 p.A
  eb : at_ a 37 p.B
  e1 : 1 ≤ c → at_ a 38 p.B
  e2 : 2 ≤ c → at_ a 39 (p.U u) ∧ p.J u W
  e6 : ∀ g, x = some g → at_ a 10 (pt g) ∧ W.heap[g]? = some zS ∧ w.heap.size ≤ g
  e7 : ∀ g, y = some g → at_ a 11 (pt g) ∧ W.heap[g]? = some zR ∧ w.heap.size ≤ g
theorem Nd.a6 (X : Cx p a0 w Q ga gb)  (H : Nd p a0 w v u c none y a W) : Nd p a0 w v u c (some W.heap.size) y (st a 10 (pt W.heap.size)) (W.alloc zS) :=
  have hB : Below W.heap.size W (W.alloc zS) := below_alloc (Below.refl _ _) _
  ⟨H.fa.put (by decide) _, below_step H.d hB, st_ne (by decide) H.ea, st_ne (by decide) H.eb, fun h => st_ne (by decide) (H.e1 h), fun h => ⟨st_ne (by decide) (H.e2 h).1, X.ok.s3 _ _ _ (H.e2 h).2 hB⟩, fun g hg => by cases hg; exact ⟨st_eq (by rw [H.fa.sz, X.sz]; decide), blk_new _ _, H.d.size⟩, fun g hg => ⟨st_ne (by decide) (H.e7 g hg).1, blk_below (H.e7 g hg).2.1 hB, (H.e7 g hg).2.2⟩⟩
theorem Nd.a7 (X : Cx p a0 w Q ga gb)  (H : Nd p a0 w v u c x none a W) : Nd p a0 w v u c x (some W.heap.size) (st a 11 (pt W.heap.size)) (W.alloc zR) :=
  have hB : Below W.heap.size W (W.alloc zR) := below_alloc (Below.refl _ _) _
  ⟨H.fa.put (by decide) _, below_step H.d hB, st_ne (by decide) H.ea, st_ne (by decide) H.eb, fun h => st_ne (by decide) (H.e1 h), fun h => ⟨st_ne (by decide) (H.e2 h).1, X.ok.s3 _ _ _ (H.e2 h).2 hB⟩, fun g hg => ⟨st_ne (by decide) (H.e6 g hg).1, blk_below (H.e6 g hg).2.1 hB, (H.e6 g hg).2.2⟩, fun g hg => by cases hg; exact ⟨st_eq (by rw [H.fa.sz, X.sz]; decide), blk_new _ _, H.d.size⟩⟩
theorem Nd.c1 (X : Cx p a0 w Q ga gb) {W' : World} (hb : Below W.heap.size W W') (H : Nd p a0 w v u 0 x y a W) : Nd p a0 w v u 1 x y (st a 38 p.B) W' :=
  have hB : Below W.heap.size W W' := hb
  ⟨H.fa.put (by decide) _, below_step H.d hB, st_ne (by decide) H.ea, st_ne (by decide) H.eb, fun _ => st_eq (by rw [H.fa.sz, X.sz]; decide), fun h => absurd h (by decide), fun g hg => ⟨st_ne (by decide) (H.e6 g hg).1, blk_below (H.e6 g hg).2.1 hB, (H.e6 g hg).2.2⟩, fun g hg => ⟨st_ne (by decide) (H.e7 g hg).1, blk_below (H.e7 g hg).2.1 hB, (H.e7 g hg).2.2⟩⟩
theorem Nd.c2 (X : Cx p a0 w Q ga gb) {u' : Us} {W' : World} (hb : Below W.heap.size W W') (hj : p.J u' W') (H : Nd p a0 w v u 1 x y a W) : Nd p a0 w v u' 2 x y (st a 39 (p.U u')) W' :=
  have hB : Below W.heap.size W W' := hb
  ⟨H.fa.put (by decide) _, below_step H.d hB, st_ne (by decide) H.ea, st_ne (by decide) H.eb, fun h => st_ne (by decide) (H.e1 (by decide)), fun _ => ⟨st_eq (by rw [H.fa.sz, X.sz]; decide), hj⟩, fun g hg => ⟨st_ne (by decide) (H.e6 g hg).1, blk_below (H.e6 g hg).2.1 hB, (H.e6 g hg).2.2⟩, fun g hg => ⟨st_ne (by decide) (H.e7 g hg).1, blk_below (H.e7 g hg).2.1 hB, (H.e7 g hg).2.2⟩⟩
theorem run8 (h : K (st a 10 (pt W.heap.size)) (W.alloc zS)) : wpOp Try.prog ops Q 8 K a W := by
  refine wpOp_step (o := o8) rfl (fun K2 hK2 => ?_)
  unfold o8
  have hu := Try.underlying31
  go_simp
  exact hK2 _ _ h
theorem run9 (h : K (st a 11 (pt W.heap.size)) (W.alloc zR)) : wpOp Try.prog ops Q 9 K a W := by
  refine wpOp_step (o := o9) rfl (fun K2 hK2 => ?_)
  unfold o9
  have hu := Try.underlying33
  go_simp
  exact hK2 _ _ h
theorem run2 {z0 : Value} {R : Value → World → Prop} (g0 : at_ a 37 z0) (hc : Calls Try.prog 8 #[z0] W (fun e W' => ∃ v, e = .returned v ∧ R v W')) (h : ∀ v W', R v W' → K (st a 38 v) W') : wpOp Try.prog ops Q 2 K a W := by
  refine wpOp_step (o := o2) rfl (fun K2 hK2 => ?_)
  unfold o2
  have h_ := Aside0.mk h; clear h; have c_ := Aside0.mk hc; clear hc
  go_simp
  refine c_.out.mono ?_
  rintro e W' ⟨v_, rfl, hr⟩
  exact hK2 _ _ (h_.out _ _ hr)
theorem run3 {z0 z1 : Value} {R : Value → World → Prop} (g0 : at_ a 36 z0) (g1 : at_ a 38 z1) (hc : Calls Try.prog 9 #[z0, z1] W (fun e W' => ∃ v, e = .returned v ∧ R v W')) (h : ∀ v W', R v W' → K (st a 39 v) W') : wpOp Try.prog ops Q 3 K a W := by
  refine wpOp_step (o := o3) rfl (fun K2 hK2 => ?_)
  unfold o3
  have h_ := Aside0.mk h; clear h; have c_ := Aside0.mk hc; clear hc
  go_simp
  refine c_.out.mono ?_
  rintro e W' ⟨v_, rfl, hr⟩
  exact hK2 _ _ (h_.out _ _ hr)
theorem run10 (g0 : at_ a 10 (pt g)) (g1 : at_ a 40 (p.S u)) (hb : W.heap[g]? = some zS) (w2 : u.u2.oneCell' = true) (w3 : u.u3.oneCell' = true) (w4 : u.u4.oneCell' = true) (h : K a (five p u g W)) : wpOp Try.prog ops Q 10 K a W := by
  refine wpOp_step (o := o10) rfl (fun K2 hK2 => ?_)
  unfold o10
  unfold Dt.S at g1
  have hu := Try.underlying31
  have r2 := fun W a m => run_store Try.prog W a u.u2 m w2
  have r3 := fun W a m => run_store Try.prog W a u.u3 m w3
  have r4 := fun W a m => run_store Try.prog W a u.u4 m w4
  have q0 := blk_cell hb 0
  have q1 := blk_cell hb 1
  have q2 := blk_cell hb 2
  have q3 := blk_cell hb 3
  have q4 := blk_cell hb 4
  have qf := blk_frozen hb
  have h_ := Aside0.mk h; clear h hb
  go_simp
  exact hK2 _ _ h_.out
theorem run11 (g0 : at_ a 11 (pt g)) (g1 : at_ a 41 (p.R u)) (hb : W.heap[g]? = some zR) (w5 : u.u5.oneCell' = true) (h : K a (two p u g W)) : wpOp Try.prog ops Q 11 K a W := by
  refine wpOp_step (o := o11) rfl (fun K2 hK2 => ?_)
  unfold o11
  unfold Dt.R at g1
  have hu := Try.underlying33
  have r5 := fun W a m => run_store Try.prog W a u.u5 m w5
  have q0 := blk_cell hb 0
  have q1 := blk_cell hb 1
  have qf := blk_frozen hb
  have h_ := Aside0.mk h; clear h hb
  go_simp
  exact hK2 _ _ h_.out
theorem run12 (g0 : at_ a 42 p.E) (h : K (st a 12 p.E) W) : wpOp Try.prog ops Q 12 K a W := by
  refine wpOp_step (o := o12) rfl (fun K2 hK2 => ?_)
  unfold o12
  have h_ := Aside0.mk h; clear h
  go_simp
  exact hK2 _ _ h_.out
def F (x y : Option Nat) : Nat := Nat.sub 1 x.isSome.toNat + Nat.sub 1 y.isSome.toNat
/-- As Nd behind all calls; the results are taken apart. -/
structure Ne (p : Dt) (a0 : Act) (w : World) (v : Value) (u : Us) (x y : Option Nat) (a : Act) (W : World) : Prop where
  n : Nd p a0 w v u 2 x y a W
  m : at_ a 35 (p.U u)
  q0 : at_ a 40 (p.S u)
  q1 : at_ a 41 (p.R u)
  q2 : at_ a 42 (p.E)
theorem Ne.a6 (X : Cx p a0 w Q ga gb) (H : Ne p a0 w v u none y a W) : Ne p a0 w v u (some W.heap.size) y (st a 10 (pt W.heap.size)) (W.alloc zS) :=
  ⟨H.n.a6 X, st_ne (by decide) H.m, st_ne (by decide) H.q0, st_ne (by decide) H.q1, st_ne (by decide) H.q2⟩
theorem Ne.a7 (X : Cx p a0 w Q ga gb) (H : Ne p a0 w v u x none a W) : Ne p a0 w v u x (some W.heap.size) (st a 11 (pt W.heap.size)) (W.alloc zR) :=
  ⟨H.n.a7 X, st_ne (by decide) H.m, st_ne (by decide) H.q0, st_ne (by decide) H.q1, st_ne (by decide) H.q2⟩
theorem Nd.put {d : Nat} (hd : d = 35 ∨ d = 40 ∨ d = 41 ∨ d = 42) (z : Value) (H : Nd p a0 w v u c x y a W) : Nd p a0 w v u c x y (st a d z) W := by
  have n : ∀ k, k ∈ [36, 37, 38, 39, 10, 11] → d ≠ k := by rcases hd with rfl | rfl | rfl | rfl <;> decide
  exact ⟨H.fa.put (by rcases hd with rfl | rfl | rfl | rfl <;> decide) _, H.d, st_ne (n _ (by decide)) H.ea, st_ne (n _ (by decide)) H.eb, fun h => st_ne (n _ (by decide)) (H.e1 h), fun h => ⟨st_ne (n _ (by decide)) (H.e2 h).1, (H.e2 h).2⟩, fun g hg => ⟨st_ne (n _ (by decide)) (H.e6 g hg).1, (H.e6 g hg).2⟩, fun g hg => ⟨st_ne (n _ (by decide)) (H.e7 g hg).1, (H.e7 g hg).2⟩⟩
theorem takes (X : Cx p a0 w Q ga gb) (H : Nd p a0 w v u 2 x y a W) (h : ∀ a2, Ne p a0 w v u x y a2 W → wpAnyH Try.prog .any ops Q (fun W => Below w.heap.size w W) (F x y + 3) (L 2 x.isSome y.isSome true) a2 W) : wpAnyH Try.prog .any ops Q (fun W => Below w.heap.size w W) (F x y + 7) (L 2 x.isSome y.isSome false) a W := by
  have h_ := Aside0.mk h; clear h
  have hs : Aside0 (a.tmps.size = 141) := ⟨H.fa.sz.trans X.sz⟩
  refine wpAnyH_take (i := 4) (oi := o4) (v := p.U u) rfl (by kernel_rfl) (by rcases x with _ | _ <;> rcases y with _ | _ <;> kernel_rfl) (by rcases x with _ | _ <;> rcases y with _ | _ <;> kernel_rfl) (fun c a w h => X.hp c a 35 _ w h) (Or.inl ⟨by rfl, fun w2 _ => by have g := (H.e2 (Nat.le_refl _)).1; unfold o4; go_simp⟩) H.d ?_
  obtain ⟨b0, hb0⟩ : ∃ b, b = st a 35 (p.U u) := ⟨_, rfl⟩
  rw [show (Act.put a o4.dst (p.U u)) = b0 by rw [hb0]; rfl]; have hu := Aside0.mk hb0; clear hb0; have hb0 := hu; clear hu
  have hs0 : Aside0 (b0.tmps.size = 141) := ⟨by rw [hb0.out]; exact Array.size_setIfInBounds.trans hs.out⟩
  have m0 : at_ b0 35 (p.U u) := by rw [hb0.out]; exact st_eq (by rw [hs.out]; decide)
  refine wpAnyH_take (i := 5) (oi := o5) (v := p.S u) rfl (by kernel_rfl) (by rcases x with _ | _ <;> rcases y with _ | _ <;> kernel_rfl) (by rcases x with _ | _ <;> rcases y with _ | _ <;> kernel_rfl) (fun c a w h => X.hp c a 40 _ w h) (Or.inl ⟨by rfl, fun w2 _ => by have g : p.U u = .tuple #[p.S u, p.R u, p.E] := rfl; unfold o5; go_simp⟩) H.d ?_
  obtain ⟨b1, hb1⟩ : ∃ b, b = st b0 40 (p.S u) := ⟨_, rfl⟩
  rw [show (Act.put b0 o5.dst (p.S u)) = b1 by rw [hb1]; rfl]; have hu := Aside0.mk hb1; clear hb1; have hb1 := hu; clear hu
  have hs1 : Aside0 (b1.tmps.size = 141) := ⟨by rw [hb1.out]; exact Array.size_setIfInBounds.trans hs0.out⟩
  have m1 : at_ b1 35 (p.U u) := by rw [hb1.out]; exact st_ne (by decide) m0
  refine wpAnyH_take (i := 6) (oi := o6) (v := p.R u) rfl (by kernel_rfl) (by rcases x with _ | _ <;> rcases y with _ | _ <;> kernel_rfl) (by rcases x with _ | _ <;> rcases y with _ | _ <;> kernel_rfl) (fun c a w h => X.hp c a 41 _ w h) (Or.inl ⟨by rfl, fun w2 _ => by have g : p.U u = .tuple #[p.S u, p.R u, p.E] := rfl; unfold o6; go_simp⟩) H.d ?_
  obtain ⟨b2, hb2⟩ : ∃ b, b = st b1 41 (p.R u) := ⟨_, rfl⟩
  rw [show (Act.put b1 o6.dst (p.R u)) = b2 by rw [hb2]; rfl]; have hu := Aside0.mk hb2; clear hb2; have hb2 := hu; clear hu
  have hs2 : Aside0 (b2.tmps.size = 141) := ⟨by rw [hb2.out]; exact Array.size_setIfInBounds.trans hs1.out⟩
  have m2 : at_ b2 35 (p.U u) := by rw [hb2.out]; exact st_ne (by decide) m1
  refine wpAnyH_take (i := 7) (oi := o7) (v := p.E) rfl (by kernel_rfl) (by rcases x with _ | _ <;> rcases y with _ | _ <;> kernel_rfl) (by rcases x with _ | _ <;> rcases y with _ | _ <;> kernel_rfl) (fun c a w h => X.hp c a 42 _ w h) (Or.inl ⟨by rfl, fun w2 _ => by have g : p.U u = .tuple #[p.S u, p.R u, p.E] := rfl; unfold o7; go_simp⟩) H.d ?_
  obtain ⟨b3, hb3⟩ : ∃ b, b = st b2 42 (p.E) := ⟨_, rfl⟩
  rw [show (Act.put b2 o7.dst (p.E)) = b3 by rw [hb3]; rfl]; have hu := Aside0.mk hb3; clear hb3; have hb3 := hu; clear hu
  have hs3 : Aside0 (b3.tmps.size = 141) := ⟨by rw [hb3.out]; exact Array.size_setIfInBounds.trans hs2.out⟩
  have m3 : at_ b3 35 (p.U u) := by rw [hb3.out]; exact st_ne (by decide) m2
  have n0 : Nd p a0 w v u 2 x y b0 W := by rw [hb0.out]; exact H.put (.inl rfl) _
  have n1 : Nd p a0 w v u 2 x y b1 W := by rw [hb1.out]; exact n0.put (.inr (.inl rfl)) _
  have n2 : Nd p a0 w v u 2 x y b2 W := by rw [hb2.out]; exact n1.put (.inr (.inr (.inl rfl))) _
  have n3 : Nd p a0 w v u 2 x y b3 W := by rw [hb3.out]; exact n2.put (.inr (.inr (.inr rfl))) _
  have q2 : at_ b3 42 (p.E) := by rw [hb3.out]; exact st_eq (by rw [hs2.out]; decide)
  have q1 : at_ b3 41 (p.R u) := by rw [hb3.out]; refine st_ne (by decide) ?_; rw [hb2.out]; exact st_eq (by rw [hs1.out]; decide)
  have q0 : at_ b3 40 (p.S u) := by rw [hb3.out]; refine st_ne (by decide) ?_; rw [hb2.out]; refine st_ne (by decide) ?_; rw [hb1.out]; exact st_eq (by rw [hs0.out]; decide)
  exact h_.out b3 ⟨n3, m3, q0, q1, q2⟩
/-- The tail: the results are stored. -/
theorem late11 (X : Cx p a0 w Q ga gb) (H : Ne p a0 w v u (some g) (some h) a W) : wpAnyH Try.prog .any ops Q (fun W => Below w.heap.size w W) (F (some g) (some h) + 3) (L 2 (some g).isSome (some h).isSome true) a W := by
  obtain ⟨z3, j3⟩ := H.n.e2 (Nat.le_refl _)
  obtain ⟨w2, w3, w4, w5⟩ := X.ok.o3 _ _ j3
  obtain ⟨z6, b6, l6⟩ := H.n.e6 _ rfl
  obtain ⟨z7, b7, l7⟩ := H.n.e7 _ rfl
  refine wpAnyH_all (rs := [10]) (by kernel_rfl) (by simp) ?_
  intro i hi; rw [List.mem_singleton.1 hi]
  refine run10 z6 H.q0 b6 w2 w3 w4 ?_
  obtain ⟨d1, c6, c7, i4⟩ := five_told X.ok H.n.d l6 b6 b7 j3
  refine ⟨d1, ?_⟩
  refine wpAnyH_all (rs := [11]) (by kernel_rfl) (by simp) ?_
  intro i hi; rw [List.mem_singleton.1 hi]
  refine run11 z7 H.q1 c7 w5 ?_
  obtain ⟨d2, y6, y7, i6⟩ := two_told X.ok d1 l7 c6 c7 i4
  refine ⟨d2, ?_⟩
  refine wpAnyH_all (rs := [12]) (by kernel_rfl) (by simp) ?_
  intro i hi; rw [List.mem_singleton.1 hi]
  refine run12 H.q2 ⟨d2, ?_⟩
  refine wpAnyH_done (by kernel_rfl) ?_ _
  have fb := H.n.fa.put (d := 12) (by decide) p.E
  have e := Fa.eqn D fb (fun d hd => by rw [X.sz]; revert d; decide)
  simp only [D, List.foldr_cons, List.foldr_nil] at e
  rw [get_eq (show 12 < a.tmps.size by rw [H.n.fa.sz, X.sz]; decide), (get_ne (show (12 : Nat) ≠ 10 by decide)).trans (z6), (get_ne (show (12 : Nat) ≠ 11 by decide)).trans (z7)] at e
  show Q .normal (st a 12 p.E) _
  rw [show st a 12 p.E = _ from e]
  exact X.hq (fun k => (a.tmps.setIfInBounds 12 p.E)[k]?.getD undef) u g h _ d2 i6 l6 l7 y6 y7
theorem late01 (X : Cx p a0 w Q ga gb) (H : Ne p a0 w v u (none : Option Nat) (some h) a W) : wpAnyH Try.prog .any ops Q (fun W => Below w.heap.size w W) (F (none : Option Nat) (some h) + 3) (L 2 (none : Option Nat).isSome (some h).isSome true) a W := by
  refine wpAnyH_all (rs := [8]) (by kernel_rfl) (by simp) ?_
  intro i hi
  simp only [List.mem_cons, List.not_mem_nil, or_false] at hi
  rcases hi with rfl
  · exact run8 ⟨(H.a6 X).n.d, late11 X (H.a6 X)⟩
theorem late10 (X : Cx p a0 w Q ga gb) (H : Ne p a0 w v u (some g) (none : Option Nat) a W) : wpAnyH Try.prog .any ops Q (fun W => Below w.heap.size w W) (F (some g) (none : Option Nat) + 3) (L 2 (some g).isSome (none : Option Nat).isSome true) a W := by
  refine wpAnyH_all (rs := [9]) (by kernel_rfl) (by simp) ?_
  intro i hi
  simp only [List.mem_cons, List.not_mem_nil, or_false] at hi
  rcases hi with rfl
  · exact run9 ⟨(H.a7 X).n.d, late11 X (H.a7 X)⟩
theorem late00 (X : Cx p a0 w Q ga gb) (H : Ne p a0 w v u (none : Option Nat) (none : Option Nat) a W) : wpAnyH Try.prog .any ops Q (fun W => Below w.heap.size w W) (F (none : Option Nat) (none : Option Nat) + 3) (L 2 (none : Option Nat).isSome (none : Option Nat).isSome true) a W := by
  refine wpAnyH_all (rs := [8, 9]) (by kernel_rfl) (by simp) ?_
  intro i hi
  simp only [List.mem_cons, List.not_mem_nil, or_false] at hi
  rcases hi with rfl | rfl
  · exact run8 ⟨(H.a6 X).n.d, late10 X (H.a6 X)⟩
  · exact run9 ⟨(H.a7 X).n.d, late01 X (H.a7 X)⟩
theorem node111 (X : Cx p a0 w Q ga gb) (H : Nd p a0 w v u 1 (some g) (some h) a W) : wpAnyH Try.prog .any ops Q (fun W => Below w.heap.size w W) (F (some g) (some h) + 8) (L 1 (some g).isSome (some h).isSome false) a W := by
  refine wpAnyH_all (rs := [3]) (by kernel_rfl) (by simp) ?_
  intro i hi
  simp only [List.mem_cons, List.not_mem_nil, or_false] at hi
  rcases hi with rfl
  · exact run3 (R := fun v' W' => ∃ u, v' = p.U u ∧ p.J u W' ∧ Below W.heap.size W W') H.ea (H.e1 (by decide)) ((X.c2 W H.d).mono (fun e W' he => by obtain ⟨u, he, hj, hb⟩ := he; exact ⟨_, he, u, rfl, hj, hb⟩)) (fun v' W' hr => by obtain ⟨u, rfl, hj, hb⟩ := hr; exact ⟨(H.c2 X hb hj).d, takes X (H.c2 X hb hj) (fun a2 h2 => late11 X h2)⟩)
theorem node101 (X : Cx p a0 w Q ga gb) (H : Nd p a0 w v u 1 (none : Option Nat) (some h) a W) : wpAnyH Try.prog .any ops Q (fun W => Below w.heap.size w W) (F (none : Option Nat) (some h) + 8) (L 1 (none : Option Nat).isSome (some h).isSome false) a W := by
  refine wpAnyH_all (rs := [3, 8]) (by kernel_rfl) (by simp) ?_
  intro i hi
  simp only [List.mem_cons, List.not_mem_nil, or_false] at hi
  rcases hi with rfl | rfl
  · exact run3 (R := fun v' W' => ∃ u, v' = p.U u ∧ p.J u W' ∧ Below W.heap.size W W') H.ea (H.e1 (by decide)) ((X.c2 W H.d).mono (fun e W' he => by obtain ⟨u, he, hj, hb⟩ := he; exact ⟨_, he, u, rfl, hj, hb⟩)) (fun v' W' hr => by obtain ⟨u, rfl, hj, hb⟩ := hr; exact ⟨(H.c2 X hb hj).d, takes X (H.c2 X hb hj) (fun a2 h2 => late01 X h2)⟩)
  · exact run8 ⟨(H.a6 X).d, node111 X (H.a6 X)⟩
theorem node110 (X : Cx p a0 w Q ga gb) (H : Nd p a0 w v u 1 (some g) (none : Option Nat) a W) : wpAnyH Try.prog .any ops Q (fun W => Below w.heap.size w W) (F (some g) (none : Option Nat) + 8) (L 1 (some g).isSome (none : Option Nat).isSome false) a W := by
  refine wpAnyH_all (rs := [3, 9]) (by kernel_rfl) (by simp) ?_
  intro i hi
  simp only [List.mem_cons, List.not_mem_nil, or_false] at hi
  rcases hi with rfl | rfl
  · exact run3 (R := fun v' W' => ∃ u, v' = p.U u ∧ p.J u W' ∧ Below W.heap.size W W') H.ea (H.e1 (by decide)) ((X.c2 W H.d).mono (fun e W' he => by obtain ⟨u, he, hj, hb⟩ := he; exact ⟨_, he, u, rfl, hj, hb⟩)) (fun v' W' hr => by obtain ⟨u, rfl, hj, hb⟩ := hr; exact ⟨(H.c2 X hb hj).d, takes X (H.c2 X hb hj) (fun a2 h2 => late10 X h2)⟩)
  · exact run9 ⟨(H.a7 X).d, node111 X (H.a7 X)⟩
theorem node100 (X : Cx p a0 w Q ga gb) (H : Nd p a0 w v u 1 (none : Option Nat) (none : Option Nat) a W) : wpAnyH Try.prog .any ops Q (fun W => Below w.heap.size w W) (F (none : Option Nat) (none : Option Nat) + 8) (L 1 (none : Option Nat).isSome (none : Option Nat).isSome false) a W := by
  refine wpAnyH_all (rs := [3, 8, 9]) (by kernel_rfl) (by simp) ?_
  intro i hi
  simp only [List.mem_cons, List.not_mem_nil, or_false] at hi
  rcases hi with rfl | rfl | rfl
  · exact run3 (R := fun v' W' => ∃ u, v' = p.U u ∧ p.J u W' ∧ Below W.heap.size W W') H.ea (H.e1 (by decide)) ((X.c2 W H.d).mono (fun e W' he => by obtain ⟨u, he, hj, hb⟩ := he; exact ⟨_, he, u, rfl, hj, hb⟩)) (fun v' W' hr => by obtain ⟨u, rfl, hj, hb⟩ := hr; exact ⟨(H.c2 X hb hj).d, takes X (H.c2 X hb hj) (fun a2 h2 => late00 X h2)⟩)
  · exact run8 ⟨(H.a6 X).d, node110 X (H.a6 X)⟩
  · exact run9 ⟨(H.a7 X).d, node101 X (H.a7 X)⟩
theorem node011 (X : Cx p a0 w Q ga gb) (H : Nd p a0 w v u 0 (some g) (some h) a W) : wpAnyH Try.prog .any ops Q (fun W => Below w.heap.size w W) (F (some g) (some h) + 9) (L 0 (some g).isSome (some h).isSome false) a W := by
  refine wpAnyH_all (rs := [2]) (by kernel_rfl) (by simp) ?_
  intro i hi
  simp only [List.mem_cons, List.not_mem_nil, or_false] at hi
  rcases hi with rfl
  · exact run2 (R := fun v W' => v = p.B ∧ Below W.heap.size W W') H.eb ((X.c1 W H.d).mono (fun e W' he => ⟨_, he.1, rfl, he.2⟩)) (fun v' W' hr => by obtain ⟨rfl, hb⟩ := hr; exact ⟨(H.c1 X hb).d, node111 X (H.c1 X hb)⟩)
theorem node001 (X : Cx p a0 w Q ga gb) (H : Nd p a0 w v u 0 (none : Option Nat) (some h) a W) : wpAnyH Try.prog .any ops Q (fun W => Below w.heap.size w W) (F (none : Option Nat) (some h) + 9) (L 0 (none : Option Nat).isSome (some h).isSome false) a W := by
  refine wpAnyH_all (rs := [2, 8]) (by kernel_rfl) (by simp) ?_
  intro i hi
  simp only [List.mem_cons, List.not_mem_nil, or_false] at hi
  rcases hi with rfl | rfl
  · exact run2 (R := fun v W' => v = p.B ∧ Below W.heap.size W W') H.eb ((X.c1 W H.d).mono (fun e W' he => ⟨_, he.1, rfl, he.2⟩)) (fun v' W' hr => by obtain ⟨rfl, hb⟩ := hr; exact ⟨(H.c1 X hb).d, node101 X (H.c1 X hb)⟩)
  · exact run8 ⟨(H.a6 X).d, node011 X (H.a6 X)⟩
theorem node010 (X : Cx p a0 w Q ga gb) (H : Nd p a0 w v u 0 (some g) (none : Option Nat) a W) : wpAnyH Try.prog .any ops Q (fun W => Below w.heap.size w W) (F (some g) (none : Option Nat) + 9) (L 0 (some g).isSome (none : Option Nat).isSome false) a W := by
  refine wpAnyH_all (rs := [2, 9]) (by kernel_rfl) (by simp) ?_
  intro i hi
  simp only [List.mem_cons, List.not_mem_nil, or_false] at hi
  rcases hi with rfl | rfl
  · exact run2 (R := fun v W' => v = p.B ∧ Below W.heap.size W W') H.eb ((X.c1 W H.d).mono (fun e W' he => ⟨_, he.1, rfl, he.2⟩)) (fun v' W' hr => by obtain ⟨rfl, hb⟩ := hr; exact ⟨(H.c1 X hb).d, node110 X (H.c1 X hb)⟩)
  · exact run9 ⟨(H.a7 X).d, node011 X (H.a7 X)⟩
theorem node000 (X : Cx p a0 w Q ga gb) (H : Nd p a0 w v u 0 (none : Option Nat) (none : Option Nat) a W) : wpAnyH Try.prog .any ops Q (fun W => Below w.heap.size w W) (F (none : Option Nat) (none : Option Nat) + 9) (L 0 (none : Option Nat).isSome (none : Option Nat).isSome false) a W := by
  refine wpAnyH_all (rs := [2, 8, 9]) (by kernel_rfl) (by simp) ?_
  intro i hi
  simp only [List.mem_cons, List.not_mem_nil, or_false] at hi
  rcases hi with rfl | rfl | rfl
  · exact run2 (R := fun v W' => v = p.B ∧ Below W.heap.size W W') H.eb ((X.c1 W H.d).mono (fun e W' he => ⟨_, he.1, rfl, he.2⟩)) (fun v' W' hr => by obtain ⟨rfl, hb⟩ := hr; exact ⟨(H.c1 X hb).d, node100 X (H.c1 X hb)⟩)
  · exact run8 ⟨(H.a6 X).d, node010 X (H.a6 X)⟩
  · exact run9 ⟨(H.a7 X).d, node001 X (H.a7 X)⟩
/-- The region. -/
theorem whole (X : Cx p a0 w Q ga gb) : (Code.region 7 ops true).wp Try.prog Q a0 w := by
  refine wp_region_held_drew (S := (fun W => Below w.heap.size w W)) (by kernel_rfl) (below_drew (Below.refl _ _)) (fun d0 => ?_)
  refine wpAnyH_take (i := 0) (oi := o0) (v := p.A) rfl (by kernel_rfl) (by kernel_rfl) (by kernel_rfl) (fun c a w h => X.hp c a 36 _ w h) (Or.inl ⟨by rfl, fun W2 h2 => ?p0⟩) d0 ?r0
  case p0 =>
    have hu := Try.underlying31
    have h0 := X.pa
    obtain ⟨h1, h3, h4, h5, h6⟩ := X.ya W2 h2
    unfold o0 Dt.A
    go_simp
  refine wpAnyH_take (i := 1) (oi := o1) (v := p.B) rfl (by kernel_rfl) (by kernel_rfl) (by kernel_rfl) (fun c a w h => X.hp c a 37 _ w h) (Or.inl ⟨by rfl, fun W2 h2 => ?p1⟩) d0 ?r1
  case p1 =>
    have hu := Try.underlying27
    have h0 := X.pb
    obtain ⟨h1, h3⟩ := X.yb W2 h2
    unfold o1 o0 Dt.B
    go_simp
  have q1 : (st a0 36 p.A).tmps.size = 141 := Array.size_setIfInBounds.trans X.sz
  have H : Nd p a0 w undef ⟨undef, undef, undef, undef⟩ 0 none none (st (st a0 36 p.A) 37 p.B) w.drew := ⟨((Fa.refl D a0).put (d := 36) (by decide) _).put (d := 37) (by decide) _, d0, st_ne (by decide) (st_eq (by rw [X.sz]; decide)), st_eq (by rw [q1]; decide), fun h => absurd h (by decide), fun h => absurd h (by decide), fun g hg => absurd hg (by simp), fun g hg => absurd hg (by simp)⟩
  exact node000 X H
end
end R7
namespace R28
def o0 : Oper := ⟨some 105, Op.load 25 (Operand.tmp 2), 25, "exact.go:5995", #[], none⟩
def o1 : Oper := ⟨some 106, Op.call { callee := Callee.value (Operand.func 7), args := #[Operand.tmp 105], argTypes := #[25] }, 31, "exact.go:5995", #[da 0], none⟩
def o2 : Oper := ⟨some 107, Op.load 27 (Operand.tmp 3), 27, "exact.go:5995", #[], none⟩
def o3 : Oper := ⟨some 108, Op.call { callee := Callee.value (Operand.func 8), args := #[Operand.tmp 107], argTypes := #[27] }, 37, "exact.go:5995", #[da 2, cn 1], none⟩
def o4 : Oper := ⟨some 109, Op.call { callee := Callee.value (Operand.func 9), args := #[Operand.tmp 106, Operand.tmp 108], argTypes := #[31, 37] }, 34, "exact.go:5995", #[da 1, da 3, cn 3], none⟩
def o5 : Oper := ⟨some 104, Op.move (Operand.tmp 109), 34, "exact.go:5995", #[da 4], none⟩
def o6 : Oper := ⟨some 110, Op.extract (Operand.tmp 104) 0, 31, "exact.go:5995", #[da 5], none⟩
def o7 : Oper := ⟨some 111, Op.extract (Operand.tmp 104) 1, 33, "exact.go:5995", #[da 5, gc 11], none⟩
def o8 : Oper := ⟨some 112, Op.extract (Operand.tmp 104) 2, 3, "exact.go:5995", #[da 5, gc 12], none⟩
def o9 : Oper := ⟨some 16, Op.alloc 31, 0, "exact.go:5995", #[], none⟩
def o10 : Oper := ⟨some 17, Op.alloc 33, 0, "exact.go:5995", #[], none⟩
def o11 : Oper := ⟨none, Op.store 31 (Operand.tmp 16) (Operand.tmp 110), 0, "exact.go:5995", #[da 9, da 6, cn 4, ph 0, ph 1, ph 2, ph 3, ph 4, ph 5, ph 6, tx 7, tx 8, ph 9, ph 10], none⟩
def o12 : Oper := ⟨none, Op.store 33 (Operand.tmp 17) (Operand.tmp 111), 0, "exact.go:5995", #[da 10, da 7, cn 11, ph 0, ph 1, ph 2, ph 3, ph 4, ph 5, ph 6, ph 7, tx 8, ph 9, ph 10, ph 11], none⟩
def o13 : Oper := ⟨some 18, Op.assign (Operand.tmp 112), 3, "exact.go:5995", #[da 8, cn 12, ph 0, ph 1, ph 2, ph 3, ph 4, ph 5, ph 6, ph 7, ph 8, ph 9, ph 10, ph 11, ph 12], none⟩
def ops : Array Oper := #[o0, o1, o2, o3, o4, o5, o6, o7, o8, o9, o10, o11, o12, o13]
def D : List Nat := [105, 107, 106, 108, 109, 104, 110, 111, 112, 16, 17, 18]
/-- What has come up: the loads, c calls, the boxes, and the results apart. -/
def L (c : Nat) (x y t : Bool) : Array Bool := #[true, Nat.blt 0 c, true, Nat.blt 1 c, Nat.blt 2 c, t, t, t, t, x, y, false, false, false]
/-- What is known at the region's beginning, and what is asked behind it. -/
structure Cx (p : Dt) (a0 : Act) (w : World) (Q : Exit → Act → World → Prop) (ga gb : Nat) : Prop where
  ok : Ok p
  sz : a0.tmps.size = 141
  pa : at_ a0 2 (pt ga)
  pb : at_ a0 3 (pt gb)
  ya : ∀ W, Below w.heap.size w W → W.cell? ⟨ga, 0, none⟩ = some (.int .i64 p.x0) ∧ W.cell? ⟨ga, 1, none⟩ = some (.int .i64 p.x1) ∧ W.cell? ⟨ga, 2, none⟩ = some p.x2 ∧ W.cell? ⟨ga, 3, none⟩ = some p.x3 ∧ W.cell? ⟨ga, 4, none⟩ = some p.x4
  yb : ∀ W, Below w.heap.size w W → W.cell? ⟨gb, 0, none⟩ = some (.int .i64 p.y0) ∧ W.cell? ⟨gb, 1, none⟩ = some (.int .i64 p.y1)
  c0 : ∀ W, Below w.heap.size w W → Calls Try.prog 7 #[p.A] W fun e W' => ∃ v, e = .returned v ∧ p.J1 v W' ∧ Below W.heap.size W W'
  c1 : ∀ W, Below w.heap.size w W → Calls Try.prog 8 #[p.B] W fun e W' => e = .returned p.B ∧ Below W.heap.size W W'
  c2 : ∀ v W, Below w.heap.size w W → p.J1 v W → Calls Try.prog 9 #[v, p.B] W fun e W' => ∃ u, e = .returned (p.U u) ∧ p.J u W' ∧ Below W.heap.size W W'
  hp : ∀ c a d v W, Q (.panic c) (st a d v) W → Q (.panic c) a W
  hq : ∀ (z : Nat → Value) (u : Us) (g h : Nat) (W : World), Below w.heap.size w W → p.J u W → w.heap.size ≤ g → w.heap.size ≤ h → W.heap[g]? = some (.cells #[.int .i64 p.T, .int .i64 p.F, u.u2, u.u3, u.u4] 31 (0, 0)) → W.heap[h]? = some (.cells #[.int .i64 p.code, u.u5] 33 (0, 0)) → Q .normal ⟨((((((((((((a0.tmps.setIfInBounds 18 (p.E)).setIfInBounds 17 (pt h)).setIfInBounds 16 (pt g)).setIfInBounds 112 (z 112)).setIfInBounds 111 (z 111)).setIfInBounds 110 (z 110)).setIfInBounds 104 (z 104)).setIfInBounds 109 (z 109)).setIfInBounds 108 (z 108)).setIfInBounds 106 (z 106)).setIfInBounds 107 (z 107)).setIfInBounds 105 (z 105)), a0.defers⟩ W
section
variable {p : Dt} {a0 a : Act} {w W : World} {Q : Exit → Act → World → Prop} {ga gb g h c : Nat} {x y : Option Nat} {v : Value} {u : Us} {K : Act → World → Prop}
/-- Behind c of the calls, with these boxes made. -/
structure Nd (p : Dt) (a0 : Act) (w : World) (v : Value) (u : Us) (c : Nat) (x y : Option Nat) (a : Act) (W : World) : Prop where
  fa : Fa D a0 a
  d : Below w.heap.size w W
  ea : at_ a 105 p.A
  eb : at_ a 107 p.B
  e0 : 1 ≤ c → at_ a 106 v ∧ p.J1 v W
  e1 : 2 ≤ c → at_ a 108 p.B
  e2 : 3 ≤ c → at_ a 109 (p.U u) ∧ p.J u W
  e6 : ∀ g, x = some g → at_ a 16 (pt g) ∧ W.heap[g]? = some zS ∧ w.heap.size ≤ g
  e7 : ∀ g, y = some g → at_ a 17 (pt g) ∧ W.heap[g]? = some zR ∧ w.heap.size ≤ g
theorem Nd.a6 (X : Cx p a0 w Q ga gb)  (H : Nd p a0 w v u c none y a W) : Nd p a0 w v u c (some W.heap.size) y (st a 16 (pt W.heap.size)) (W.alloc zS) :=
  have hB : Below W.heap.size W (W.alloc zS) := below_alloc (Below.refl _ _) _
  ⟨H.fa.put (by decide) _, below_step H.d hB, st_ne (by decide) H.ea, st_ne (by decide) H.eb, fun h => ⟨st_ne (by decide) (H.e0 h).1, X.ok.s1 _ _ _ (H.e0 h).2 hB⟩, fun h => st_ne (by decide) (H.e1 h), fun h => ⟨st_ne (by decide) (H.e2 h).1, X.ok.s3 _ _ _ (H.e2 h).2 hB⟩, fun g hg => by cases hg; exact ⟨st_eq (by rw [H.fa.sz, X.sz]; decide), blk_new _ _, H.d.size⟩, fun g hg => ⟨st_ne (by decide) (H.e7 g hg).1, blk_below (H.e7 g hg).2.1 hB, (H.e7 g hg).2.2⟩⟩
theorem Nd.a7 (X : Cx p a0 w Q ga gb)  (H : Nd p a0 w v u c x none a W) : Nd p a0 w v u c x (some W.heap.size) (st a 17 (pt W.heap.size)) (W.alloc zR) :=
  have hB : Below W.heap.size W (W.alloc zR) := below_alloc (Below.refl _ _) _
  ⟨H.fa.put (by decide) _, below_step H.d hB, st_ne (by decide) H.ea, st_ne (by decide) H.eb, fun h => ⟨st_ne (by decide) (H.e0 h).1, X.ok.s1 _ _ _ (H.e0 h).2 hB⟩, fun h => st_ne (by decide) (H.e1 h), fun h => ⟨st_ne (by decide) (H.e2 h).1, X.ok.s3 _ _ _ (H.e2 h).2 hB⟩, fun g hg => ⟨st_ne (by decide) (H.e6 g hg).1, blk_below (H.e6 g hg).2.1 hB, (H.e6 g hg).2.2⟩, fun g hg => by cases hg; exact ⟨st_eq (by rw [H.fa.sz, X.sz]; decide), blk_new _ _, H.d.size⟩⟩
theorem Nd.c0 (X : Cx p a0 w Q ga gb) {v' : Value} {W' : World} (hb : Below W.heap.size W W') (hj : p.J1 v' W') (H : Nd p a0 w v u 0 x y a W) : Nd p a0 w v' u 1 x y (st a 106 v') W' :=
  have hB : Below W.heap.size W W' := hb
  ⟨H.fa.put (by decide) _, below_step H.d hB, st_ne (by decide) H.ea, st_ne (by decide) H.eb, fun _ => ⟨st_eq (by rw [H.fa.sz, X.sz]; decide), hj⟩, fun h => absurd h (by decide), fun h => absurd h (by decide), fun g hg => ⟨st_ne (by decide) (H.e6 g hg).1, blk_below (H.e6 g hg).2.1 hB, (H.e6 g hg).2.2⟩, fun g hg => ⟨st_ne (by decide) (H.e7 g hg).1, blk_below (H.e7 g hg).2.1 hB, (H.e7 g hg).2.2⟩⟩
theorem Nd.c1 (X : Cx p a0 w Q ga gb) {W' : World} (hb : Below W.heap.size W W') (H : Nd p a0 w v u 1 x y a W) : Nd p a0 w v u 2 x y (st a 108 p.B) W' :=
  have hB : Below W.heap.size W W' := hb
  ⟨H.fa.put (by decide) _, below_step H.d hB, st_ne (by decide) H.ea, st_ne (by decide) H.eb, fun h => ⟨st_ne (by decide) (H.e0 (by decide)).1, X.ok.s1 _ _ _ (H.e0 (by decide)).2 hB⟩, fun _ => st_eq (by rw [H.fa.sz, X.sz]; decide), fun h => absurd h (by decide), fun g hg => ⟨st_ne (by decide) (H.e6 g hg).1, blk_below (H.e6 g hg).2.1 hB, (H.e6 g hg).2.2⟩, fun g hg => ⟨st_ne (by decide) (H.e7 g hg).1, blk_below (H.e7 g hg).2.1 hB, (H.e7 g hg).2.2⟩⟩
theorem Nd.c2 (X : Cx p a0 w Q ga gb) {u' : Us} {W' : World} (hb : Below W.heap.size W W') (hj : p.J u' W') (H : Nd p a0 w v u 2 x y a W) : Nd p a0 w v u' 3 x y (st a 109 (p.U u')) W' :=
  have hB : Below W.heap.size W W' := hb
  ⟨H.fa.put (by decide) _, below_step H.d hB, st_ne (by decide) H.ea, st_ne (by decide) H.eb, fun h => ⟨st_ne (by decide) (H.e0 (by decide)).1, X.ok.s1 _ _ _ (H.e0 (by decide)).2 hB⟩, fun h => st_ne (by decide) (H.e1 (by decide)), fun _ => ⟨st_eq (by rw [H.fa.sz, X.sz]; decide), hj⟩, fun g hg => ⟨st_ne (by decide) (H.e6 g hg).1, blk_below (H.e6 g hg).2.1 hB, (H.e6 g hg).2.2⟩, fun g hg => ⟨st_ne (by decide) (H.e7 g hg).1, blk_below (H.e7 g hg).2.1 hB, (H.e7 g hg).2.2⟩⟩
theorem run9 (h : K (st a 16 (pt W.heap.size)) (W.alloc zS)) : wpOp Try.prog ops Q 9 K a W := by
  refine wpOp_step (o := o9) rfl (fun K2 hK2 => ?_)
  unfold o9
  have hu := Try.underlying31
  go_simp
  exact hK2 _ _ h
theorem run10 (h : K (st a 17 (pt W.heap.size)) (W.alloc zR)) : wpOp Try.prog ops Q 10 K a W := by
  refine wpOp_step (o := o10) rfl (fun K2 hK2 => ?_)
  unfold o10
  have hu := Try.underlying33
  go_simp
  exact hK2 _ _ h
theorem run1 {z0 : Value} {R : Value → World → Prop} (g0 : at_ a 105 z0) (hc : Calls Try.prog 7 #[z0] W (fun e W' => ∃ v, e = .returned v ∧ R v W')) (h : ∀ v W', R v W' → K (st a 106 v) W') : wpOp Try.prog ops Q 1 K a W := by
  refine wpOp_step (o := o1) rfl (fun K2 hK2 => ?_)
  unfold o1
  have h_ := Aside0.mk h; clear h; have c_ := Aside0.mk hc; clear hc
  go_simp
  refine c_.out.mono ?_
  rintro e W' ⟨v_, rfl, hr⟩
  exact hK2 _ _ (h_.out _ _ hr)
theorem run3 {z0 : Value} {R : Value → World → Prop} (g0 : at_ a 107 z0) (hc : Calls Try.prog 8 #[z0] W (fun e W' => ∃ v, e = .returned v ∧ R v W')) (h : ∀ v W', R v W' → K (st a 108 v) W') : wpOp Try.prog ops Q 3 K a W := by
  refine wpOp_step (o := o3) rfl (fun K2 hK2 => ?_)
  unfold o3
  have h_ := Aside0.mk h; clear h; have c_ := Aside0.mk hc; clear hc
  go_simp
  refine c_.out.mono ?_
  rintro e W' ⟨v_, rfl, hr⟩
  exact hK2 _ _ (h_.out _ _ hr)
theorem run4 {z0 z1 : Value} {R : Value → World → Prop} (g0 : at_ a 106 z0) (g1 : at_ a 108 z1) (hc : Calls Try.prog 9 #[z0, z1] W (fun e W' => ∃ v, e = .returned v ∧ R v W')) (h : ∀ v W', R v W' → K (st a 109 v) W') : wpOp Try.prog ops Q 4 K a W := by
  refine wpOp_step (o := o4) rfl (fun K2 hK2 => ?_)
  unfold o4
  have h_ := Aside0.mk h; clear h; have c_ := Aside0.mk hc; clear hc
  go_simp
  refine c_.out.mono ?_
  rintro e W' ⟨v_, rfl, hr⟩
  exact hK2 _ _ (h_.out _ _ hr)
theorem run11 (g0 : at_ a 16 (pt g)) (g1 : at_ a 110 (p.S u)) (hb : W.heap[g]? = some zS) (w2 : u.u2.oneCell' = true) (w3 : u.u3.oneCell' = true) (w4 : u.u4.oneCell' = true) (h : K a (five p u g W)) : wpOp Try.prog ops Q 11 K a W := by
  refine wpOp_step (o := o11) rfl (fun K2 hK2 => ?_)
  unfold o11
  unfold Dt.S at g1
  have hu := Try.underlying31
  have r2 := fun W a m => run_store Try.prog W a u.u2 m w2
  have r3 := fun W a m => run_store Try.prog W a u.u3 m w3
  have r4 := fun W a m => run_store Try.prog W a u.u4 m w4
  have q0 := blk_cell hb 0
  have q1 := blk_cell hb 1
  have q2 := blk_cell hb 2
  have q3 := blk_cell hb 3
  have q4 := blk_cell hb 4
  have qf := blk_frozen hb
  have h_ := Aside0.mk h; clear h hb
  go_simp
  exact hK2 _ _ h_.out
theorem run12 (g0 : at_ a 17 (pt g)) (g1 : at_ a 111 (p.R u)) (hb : W.heap[g]? = some zR) (w5 : u.u5.oneCell' = true) (h : K a (two p u g W)) : wpOp Try.prog ops Q 12 K a W := by
  refine wpOp_step (o := o12) rfl (fun K2 hK2 => ?_)
  unfold o12
  unfold Dt.R at g1
  have hu := Try.underlying33
  have r5 := fun W a m => run_store Try.prog W a u.u5 m w5
  have q0 := blk_cell hb 0
  have q1 := blk_cell hb 1
  have qf := blk_frozen hb
  have h_ := Aside0.mk h; clear h hb
  go_simp
  exact hK2 _ _ h_.out
theorem run13 (g0 : at_ a 112 p.E) (h : K (st a 18 p.E) W) : wpOp Try.prog ops Q 13 K a W := by
  refine wpOp_step (o := o13) rfl (fun K2 hK2 => ?_)
  unfold o13
  have h_ := Aside0.mk h; clear h
  go_simp
  exact hK2 _ _ h_.out
def F (x y : Option Nat) : Nat := Nat.sub 1 x.isSome.toNat + Nat.sub 1 y.isSome.toNat
/-- As Nd behind all calls; the results are taken apart. -/
structure Ne (p : Dt) (a0 : Act) (w : World) (v : Value) (u : Us) (x y : Option Nat) (a : Act) (W : World) : Prop where
  n : Nd p a0 w v u 3 x y a W
  m : at_ a 104 (p.U u)
  q0 : at_ a 110 (p.S u)
  q1 : at_ a 111 (p.R u)
  q2 : at_ a 112 (p.E)
theorem Ne.a6 (X : Cx p a0 w Q ga gb) (H : Ne p a0 w v u none y a W) : Ne p a0 w v u (some W.heap.size) y (st a 16 (pt W.heap.size)) (W.alloc zS) :=
  ⟨H.n.a6 X, st_ne (by decide) H.m, st_ne (by decide) H.q0, st_ne (by decide) H.q1, st_ne (by decide) H.q2⟩
theorem Ne.a7 (X : Cx p a0 w Q ga gb) (H : Ne p a0 w v u x none a W) : Ne p a0 w v u x (some W.heap.size) (st a 17 (pt W.heap.size)) (W.alloc zR) :=
  ⟨H.n.a7 X, st_ne (by decide) H.m, st_ne (by decide) H.q0, st_ne (by decide) H.q1, st_ne (by decide) H.q2⟩
theorem Nd.put {d : Nat} (hd : d = 104 ∨ d = 110 ∨ d = 111 ∨ d = 112) (z : Value) (H : Nd p a0 w v u c x y a W) : Nd p a0 w v u c x y (st a d z) W := by
  have n : ∀ k, k ∈ [105, 107, 106, 108, 109, 16, 17] → d ≠ k := by rcases hd with rfl | rfl | rfl | rfl <;> decide
  exact ⟨H.fa.put (by rcases hd with rfl | rfl | rfl | rfl <;> decide) _, H.d, st_ne (n _ (by decide)) H.ea, st_ne (n _ (by decide)) H.eb, fun h => ⟨st_ne (n _ (by decide)) (H.e0 h).1, (H.e0 h).2⟩, fun h => st_ne (n _ (by decide)) (H.e1 h), fun h => ⟨st_ne (n _ (by decide)) (H.e2 h).1, (H.e2 h).2⟩, fun g hg => ⟨st_ne (n _ (by decide)) (H.e6 g hg).1, (H.e6 g hg).2⟩, fun g hg => ⟨st_ne (n _ (by decide)) (H.e7 g hg).1, (H.e7 g hg).2⟩⟩
theorem takes (X : Cx p a0 w Q ga gb) (H : Nd p a0 w v u 3 x y a W) (h : ∀ a2, Ne p a0 w v u x y a2 W → wpAnyH Try.prog .any ops Q (fun W => Below w.heap.size w W) (F x y + 3) (L 3 x.isSome y.isSome true) a2 W) : wpAnyH Try.prog .any ops Q (fun W => Below w.heap.size w W) (F x y + 7) (L 3 x.isSome y.isSome false) a W := by
  have h_ := Aside0.mk h; clear h
  have hs : Aside0 (a.tmps.size = 141) := ⟨H.fa.sz.trans X.sz⟩
  refine wpAnyH_take (i := 5) (oi := o5) (v := p.U u) rfl (by kernel_rfl) (by rcases x with _ | _ <;> rcases y with _ | _ <;> kernel_rfl) (by rcases x with _ | _ <;> rcases y with _ | _ <;> kernel_rfl) (fun c a w h => X.hp c a 104 _ w h) (Or.inl ⟨by rfl, fun w2 _ => by have g := (H.e2 (Nat.le_refl _)).1; unfold o5; go_simp⟩) H.d ?_
  obtain ⟨b0, hb0⟩ : ∃ b, b = st a 104 (p.U u) := ⟨_, rfl⟩
  rw [show (Act.put a o5.dst (p.U u)) = b0 by rw [hb0]; rfl]; have hu := Aside0.mk hb0; clear hb0; have hb0 := hu; clear hu
  have hs0 : Aside0 (b0.tmps.size = 141) := ⟨by rw [hb0.out]; exact Array.size_setIfInBounds.trans hs.out⟩
  have m0 : at_ b0 104 (p.U u) := by rw [hb0.out]; exact st_eq (by rw [hs.out]; decide)
  refine wpAnyH_take (i := 6) (oi := o6) (v := p.S u) rfl (by kernel_rfl) (by rcases x with _ | _ <;> rcases y with _ | _ <;> kernel_rfl) (by rcases x with _ | _ <;> rcases y with _ | _ <;> kernel_rfl) (fun c a w h => X.hp c a 110 _ w h) (Or.inl ⟨by rfl, fun w2 _ => by have g : p.U u = .tuple #[p.S u, p.R u, p.E] := rfl; unfold o6; go_simp⟩) H.d ?_
  obtain ⟨b1, hb1⟩ : ∃ b, b = st b0 110 (p.S u) := ⟨_, rfl⟩
  rw [show (Act.put b0 o6.dst (p.S u)) = b1 by rw [hb1]; rfl]; have hu := Aside0.mk hb1; clear hb1; have hb1 := hu; clear hu
  have hs1 : Aside0 (b1.tmps.size = 141) := ⟨by rw [hb1.out]; exact Array.size_setIfInBounds.trans hs0.out⟩
  have m1 : at_ b1 104 (p.U u) := by rw [hb1.out]; exact st_ne (by decide) m0
  refine wpAnyH_take (i := 7) (oi := o7) (v := p.R u) rfl (by kernel_rfl) (by rcases x with _ | _ <;> rcases y with _ | _ <;> kernel_rfl) (by rcases x with _ | _ <;> rcases y with _ | _ <;> kernel_rfl) (fun c a w h => X.hp c a 111 _ w h) (Or.inl ⟨by rfl, fun w2 _ => by have g : p.U u = .tuple #[p.S u, p.R u, p.E] := rfl; unfold o7; go_simp⟩) H.d ?_
  obtain ⟨b2, hb2⟩ : ∃ b, b = st b1 111 (p.R u) := ⟨_, rfl⟩
  rw [show (Act.put b1 o7.dst (p.R u)) = b2 by rw [hb2]; rfl]; have hu := Aside0.mk hb2; clear hb2; have hb2 := hu; clear hu
  have hs2 : Aside0 (b2.tmps.size = 141) := ⟨by rw [hb2.out]; exact Array.size_setIfInBounds.trans hs1.out⟩
  have m2 : at_ b2 104 (p.U u) := by rw [hb2.out]; exact st_ne (by decide) m1
  refine wpAnyH_take (i := 8) (oi := o8) (v := p.E) rfl (by kernel_rfl) (by rcases x with _ | _ <;> rcases y with _ | _ <;> kernel_rfl) (by rcases x with _ | _ <;> rcases y with _ | _ <;> kernel_rfl) (fun c a w h => X.hp c a 112 _ w h) (Or.inl ⟨by rfl, fun w2 _ => by have g : p.U u = .tuple #[p.S u, p.R u, p.E] := rfl; unfold o8; go_simp⟩) H.d ?_
  obtain ⟨b3, hb3⟩ : ∃ b, b = st b2 112 (p.E) := ⟨_, rfl⟩
  rw [show (Act.put b2 o8.dst (p.E)) = b3 by rw [hb3]; rfl]; have hu := Aside0.mk hb3; clear hb3; have hb3 := hu; clear hu
  have hs3 : Aside0 (b3.tmps.size = 141) := ⟨by rw [hb3.out]; exact Array.size_setIfInBounds.trans hs2.out⟩
  have m3 : at_ b3 104 (p.U u) := by rw [hb3.out]; exact st_ne (by decide) m2
  have n0 : Nd p a0 w v u 3 x y b0 W := by rw [hb0.out]; exact H.put (.inl rfl) _
  have n1 : Nd p a0 w v u 3 x y b1 W := by rw [hb1.out]; exact n0.put (.inr (.inl rfl)) _
  have n2 : Nd p a0 w v u 3 x y b2 W := by rw [hb2.out]; exact n1.put (.inr (.inr (.inl rfl))) _
  have n3 : Nd p a0 w v u 3 x y b3 W := by rw [hb3.out]; exact n2.put (.inr (.inr (.inr rfl))) _
  have q2 : at_ b3 112 (p.E) := by rw [hb3.out]; exact st_eq (by rw [hs2.out]; decide)
  have q1 : at_ b3 111 (p.R u) := by rw [hb3.out]; refine st_ne (by decide) ?_; rw [hb2.out]; exact st_eq (by rw [hs1.out]; decide)
  have q0 : at_ b3 110 (p.S u) := by rw [hb3.out]; refine st_ne (by decide) ?_; rw [hb2.out]; refine st_ne (by decide) ?_; rw [hb1.out]; exact st_eq (by rw [hs0.out]; decide)
  exact h_.out b3 ⟨n3, m3, q0, q1, q2⟩
/-- The tail: the results are stored. -/
theorem late11 (X : Cx p a0 w Q ga gb) (H : Ne p a0 w v u (some g) (some h) a W) : wpAnyH Try.prog .any ops Q (fun W => Below w.heap.size w W) (F (some g) (some h) + 3) (L 3 (some g).isSome (some h).isSome true) a W := by
  obtain ⟨z3, j3⟩ := H.n.e2 (Nat.le_refl _)
  obtain ⟨w2, w3, w4, w5⟩ := X.ok.o3 _ _ j3
  obtain ⟨z6, b6, l6⟩ := H.n.e6 _ rfl
  obtain ⟨z7, b7, l7⟩ := H.n.e7 _ rfl
  refine wpAnyH_all (rs := [11]) (by kernel_rfl) (by simp) ?_
  intro i hi; rw [List.mem_singleton.1 hi]
  refine run11 z6 H.q0 b6 w2 w3 w4 ?_
  obtain ⟨d1, c6, c7, i4⟩ := five_told X.ok H.n.d l6 b6 b7 j3
  refine ⟨d1, ?_⟩
  refine wpAnyH_all (rs := [12]) (by kernel_rfl) (by simp) ?_
  intro i hi; rw [List.mem_singleton.1 hi]
  refine run12 z7 H.q1 c7 w5 ?_
  obtain ⟨d2, y6, y7, i6⟩ := two_told X.ok d1 l7 c6 c7 i4
  refine ⟨d2, ?_⟩
  refine wpAnyH_all (rs := [13]) (by kernel_rfl) (by simp) ?_
  intro i hi; rw [List.mem_singleton.1 hi]
  refine run13 H.q2 ⟨d2, ?_⟩
  refine wpAnyH_done (by kernel_rfl) ?_ _
  have fb := H.n.fa.put (d := 18) (by decide) p.E
  have e := Fa.eqn D fb (fun d hd => by rw [X.sz]; revert d; decide)
  simp only [D, List.foldr_cons, List.foldr_nil] at e
  rw [get_eq (show 18 < a.tmps.size by rw [H.n.fa.sz, X.sz]; decide), (get_ne (show (18 : Nat) ≠ 16 by decide)).trans (z6), (get_ne (show (18 : Nat) ≠ 17 by decide)).trans (z7)] at e
  show Q .normal (st a 18 p.E) _
  rw [show st a 18 p.E = _ from e]
  exact X.hq (fun k => (a.tmps.setIfInBounds 18 p.E)[k]?.getD undef) u g h _ d2 i6 l6 l7 y6 y7
theorem late01 (X : Cx p a0 w Q ga gb) (H : Ne p a0 w v u (none : Option Nat) (some h) a W) : wpAnyH Try.prog .any ops Q (fun W => Below w.heap.size w W) (F (none : Option Nat) (some h) + 3) (L 3 (none : Option Nat).isSome (some h).isSome true) a W := by
  refine wpAnyH_all (rs := [9]) (by kernel_rfl) (by simp) ?_
  intro i hi
  simp only [List.mem_cons, List.not_mem_nil, or_false] at hi
  rcases hi with rfl
  · exact run9 ⟨(H.a6 X).n.d, late11 X (H.a6 X)⟩
theorem late10 (X : Cx p a0 w Q ga gb) (H : Ne p a0 w v u (some g) (none : Option Nat) a W) : wpAnyH Try.prog .any ops Q (fun W => Below w.heap.size w W) (F (some g) (none : Option Nat) + 3) (L 3 (some g).isSome (none : Option Nat).isSome true) a W := by
  refine wpAnyH_all (rs := [10]) (by kernel_rfl) (by simp) ?_
  intro i hi
  simp only [List.mem_cons, List.not_mem_nil, or_false] at hi
  rcases hi with rfl
  · exact run10 ⟨(H.a7 X).n.d, late11 X (H.a7 X)⟩
theorem late00 (X : Cx p a0 w Q ga gb) (H : Ne p a0 w v u (none : Option Nat) (none : Option Nat) a W) : wpAnyH Try.prog .any ops Q (fun W => Below w.heap.size w W) (F (none : Option Nat) (none : Option Nat) + 3) (L 3 (none : Option Nat).isSome (none : Option Nat).isSome true) a W := by
  refine wpAnyH_all (rs := [9, 10]) (by kernel_rfl) (by simp) ?_
  intro i hi
  simp only [List.mem_cons, List.not_mem_nil, or_false] at hi
  rcases hi with rfl | rfl
  · exact run9 ⟨(H.a6 X).n.d, late10 X (H.a6 X)⟩
  · exact run10 ⟨(H.a7 X).n.d, late01 X (H.a7 X)⟩
theorem node211 (X : Cx p a0 w Q ga gb) (H : Nd p a0 w v u 2 (some g) (some h) a W) : wpAnyH Try.prog .any ops Q (fun W => Below w.heap.size w W) (F (some g) (some h) + 8) (L 2 (some g).isSome (some h).isSome false) a W := by
  refine wpAnyH_all (rs := [4]) (by kernel_rfl) (by simp) ?_
  intro i hi
  simp only [List.mem_cons, List.not_mem_nil, or_false] at hi
  rcases hi with rfl
  · exact run4 (R := fun v' W' => ∃ u, v' = p.U u ∧ p.J u W' ∧ Below W.heap.size W W') (H.e0 (by decide)).1 (H.e1 (by decide)) ((X.c2 v W H.d (H.e0 (by decide)).2).mono (fun e W' he => by obtain ⟨u, he, hj, hb⟩ := he; exact ⟨_, he, u, rfl, hj, hb⟩)) (fun v' W' hr => by obtain ⟨u, rfl, hj, hb⟩ := hr; exact ⟨(H.c2 X hb hj).d, takes X (H.c2 X hb hj) (fun a2 h2 => late11 X h2)⟩)
theorem node201 (X : Cx p a0 w Q ga gb) (H : Nd p a0 w v u 2 (none : Option Nat) (some h) a W) : wpAnyH Try.prog .any ops Q (fun W => Below w.heap.size w W) (F (none : Option Nat) (some h) + 8) (L 2 (none : Option Nat).isSome (some h).isSome false) a W := by
  refine wpAnyH_all (rs := [4, 9]) (by kernel_rfl) (by simp) ?_
  intro i hi
  simp only [List.mem_cons, List.not_mem_nil, or_false] at hi
  rcases hi with rfl | rfl
  · exact run4 (R := fun v' W' => ∃ u, v' = p.U u ∧ p.J u W' ∧ Below W.heap.size W W') (H.e0 (by decide)).1 (H.e1 (by decide)) ((X.c2 v W H.d (H.e0 (by decide)).2).mono (fun e W' he => by obtain ⟨u, he, hj, hb⟩ := he; exact ⟨_, he, u, rfl, hj, hb⟩)) (fun v' W' hr => by obtain ⟨u, rfl, hj, hb⟩ := hr; exact ⟨(H.c2 X hb hj).d, takes X (H.c2 X hb hj) (fun a2 h2 => late01 X h2)⟩)
  · exact run9 ⟨(H.a6 X).d, node211 X (H.a6 X)⟩
theorem node210 (X : Cx p a0 w Q ga gb) (H : Nd p a0 w v u 2 (some g) (none : Option Nat) a W) : wpAnyH Try.prog .any ops Q (fun W => Below w.heap.size w W) (F (some g) (none : Option Nat) + 8) (L 2 (some g).isSome (none : Option Nat).isSome false) a W := by
  refine wpAnyH_all (rs := [4, 10]) (by kernel_rfl) (by simp) ?_
  intro i hi
  simp only [List.mem_cons, List.not_mem_nil, or_false] at hi
  rcases hi with rfl | rfl
  · exact run4 (R := fun v' W' => ∃ u, v' = p.U u ∧ p.J u W' ∧ Below W.heap.size W W') (H.e0 (by decide)).1 (H.e1 (by decide)) ((X.c2 v W H.d (H.e0 (by decide)).2).mono (fun e W' he => by obtain ⟨u, he, hj, hb⟩ := he; exact ⟨_, he, u, rfl, hj, hb⟩)) (fun v' W' hr => by obtain ⟨u, rfl, hj, hb⟩ := hr; exact ⟨(H.c2 X hb hj).d, takes X (H.c2 X hb hj) (fun a2 h2 => late10 X h2)⟩)
  · exact run10 ⟨(H.a7 X).d, node211 X (H.a7 X)⟩
theorem node200 (X : Cx p a0 w Q ga gb) (H : Nd p a0 w v u 2 (none : Option Nat) (none : Option Nat) a W) : wpAnyH Try.prog .any ops Q (fun W => Below w.heap.size w W) (F (none : Option Nat) (none : Option Nat) + 8) (L 2 (none : Option Nat).isSome (none : Option Nat).isSome false) a W := by
  refine wpAnyH_all (rs := [4, 9, 10]) (by kernel_rfl) (by simp) ?_
  intro i hi
  simp only [List.mem_cons, List.not_mem_nil, or_false] at hi
  rcases hi with rfl | rfl | rfl
  · exact run4 (R := fun v' W' => ∃ u, v' = p.U u ∧ p.J u W' ∧ Below W.heap.size W W') (H.e0 (by decide)).1 (H.e1 (by decide)) ((X.c2 v W H.d (H.e0 (by decide)).2).mono (fun e W' he => by obtain ⟨u, he, hj, hb⟩ := he; exact ⟨_, he, u, rfl, hj, hb⟩)) (fun v' W' hr => by obtain ⟨u, rfl, hj, hb⟩ := hr; exact ⟨(H.c2 X hb hj).d, takes X (H.c2 X hb hj) (fun a2 h2 => late00 X h2)⟩)
  · exact run9 ⟨(H.a6 X).d, node210 X (H.a6 X)⟩
  · exact run10 ⟨(H.a7 X).d, node201 X (H.a7 X)⟩
theorem node111 (X : Cx p a0 w Q ga gb) (H : Nd p a0 w v u 1 (some g) (some h) a W) : wpAnyH Try.prog .any ops Q (fun W => Below w.heap.size w W) (F (some g) (some h) + 9) (L 1 (some g).isSome (some h).isSome false) a W := by
  refine wpAnyH_all (rs := [3]) (by kernel_rfl) (by simp) ?_
  intro i hi
  simp only [List.mem_cons, List.not_mem_nil, or_false] at hi
  rcases hi with rfl
  · exact run3 (R := fun v W' => v = p.B ∧ Below W.heap.size W W') H.eb ((X.c1 W H.d).mono (fun e W' he => ⟨_, he.1, rfl, he.2⟩)) (fun v' W' hr => by obtain ⟨rfl, hb⟩ := hr; exact ⟨(H.c1 X hb).d, node211 X (H.c1 X hb)⟩)
theorem node101 (X : Cx p a0 w Q ga gb) (H : Nd p a0 w v u 1 (none : Option Nat) (some h) a W) : wpAnyH Try.prog .any ops Q (fun W => Below w.heap.size w W) (F (none : Option Nat) (some h) + 9) (L 1 (none : Option Nat).isSome (some h).isSome false) a W := by
  refine wpAnyH_all (rs := [3, 9]) (by kernel_rfl) (by simp) ?_
  intro i hi
  simp only [List.mem_cons, List.not_mem_nil, or_false] at hi
  rcases hi with rfl | rfl
  · exact run3 (R := fun v W' => v = p.B ∧ Below W.heap.size W W') H.eb ((X.c1 W H.d).mono (fun e W' he => ⟨_, he.1, rfl, he.2⟩)) (fun v' W' hr => by obtain ⟨rfl, hb⟩ := hr; exact ⟨(H.c1 X hb).d, node201 X (H.c1 X hb)⟩)
  · exact run9 ⟨(H.a6 X).d, node111 X (H.a6 X)⟩
theorem node110 (X : Cx p a0 w Q ga gb) (H : Nd p a0 w v u 1 (some g) (none : Option Nat) a W) : wpAnyH Try.prog .any ops Q (fun W => Below w.heap.size w W) (F (some g) (none : Option Nat) + 9) (L 1 (some g).isSome (none : Option Nat).isSome false) a W := by
  refine wpAnyH_all (rs := [3, 10]) (by kernel_rfl) (by simp) ?_
  intro i hi
  simp only [List.mem_cons, List.not_mem_nil, or_false] at hi
  rcases hi with rfl | rfl
  · exact run3 (R := fun v W' => v = p.B ∧ Below W.heap.size W W') H.eb ((X.c1 W H.d).mono (fun e W' he => ⟨_, he.1, rfl, he.2⟩)) (fun v' W' hr => by obtain ⟨rfl, hb⟩ := hr; exact ⟨(H.c1 X hb).d, node210 X (H.c1 X hb)⟩)
  · exact run10 ⟨(H.a7 X).d, node111 X (H.a7 X)⟩
theorem node100 (X : Cx p a0 w Q ga gb) (H : Nd p a0 w v u 1 (none : Option Nat) (none : Option Nat) a W) : wpAnyH Try.prog .any ops Q (fun W => Below w.heap.size w W) (F (none : Option Nat) (none : Option Nat) + 9) (L 1 (none : Option Nat).isSome (none : Option Nat).isSome false) a W := by
  refine wpAnyH_all (rs := [3, 9, 10]) (by kernel_rfl) (by simp) ?_
  intro i hi
  simp only [List.mem_cons, List.not_mem_nil, or_false] at hi
  rcases hi with rfl | rfl | rfl
  · exact run3 (R := fun v W' => v = p.B ∧ Below W.heap.size W W') H.eb ((X.c1 W H.d).mono (fun e W' he => ⟨_, he.1, rfl, he.2⟩)) (fun v' W' hr => by obtain ⟨rfl, hb⟩ := hr; exact ⟨(H.c1 X hb).d, node200 X (H.c1 X hb)⟩)
  · exact run9 ⟨(H.a6 X).d, node110 X (H.a6 X)⟩
  · exact run10 ⟨(H.a7 X).d, node101 X (H.a7 X)⟩
theorem node011 (X : Cx p a0 w Q ga gb) (H : Nd p a0 w v u 0 (some g) (some h) a W) : wpAnyH Try.prog .any ops Q (fun W => Below w.heap.size w W) (F (some g) (some h) + 10) (L 0 (some g).isSome (some h).isSome false) a W := by
  refine wpAnyH_all (rs := [1]) (by kernel_rfl) (by simp) ?_
  intro i hi
  simp only [List.mem_cons, List.not_mem_nil, or_false] at hi
  rcases hi with rfl
  · exact run1 H.ea (X.c0 W H.d) (fun v' W' hr => ⟨(H.c0 X hr.2 hr.1).d, node111 X (H.c0 X hr.2 hr.1)⟩)
theorem node001 (X : Cx p a0 w Q ga gb) (H : Nd p a0 w v u 0 (none : Option Nat) (some h) a W) : wpAnyH Try.prog .any ops Q (fun W => Below w.heap.size w W) (F (none : Option Nat) (some h) + 10) (L 0 (none : Option Nat).isSome (some h).isSome false) a W := by
  refine wpAnyH_all (rs := [1, 9]) (by kernel_rfl) (by simp) ?_
  intro i hi
  simp only [List.mem_cons, List.not_mem_nil, or_false] at hi
  rcases hi with rfl | rfl
  · exact run1 H.ea (X.c0 W H.d) (fun v' W' hr => ⟨(H.c0 X hr.2 hr.1).d, node101 X (H.c0 X hr.2 hr.1)⟩)
  · exact run9 ⟨(H.a6 X).d, node011 X (H.a6 X)⟩
theorem node010 (X : Cx p a0 w Q ga gb) (H : Nd p a0 w v u 0 (some g) (none : Option Nat) a W) : wpAnyH Try.prog .any ops Q (fun W => Below w.heap.size w W) (F (some g) (none : Option Nat) + 10) (L 0 (some g).isSome (none : Option Nat).isSome false) a W := by
  refine wpAnyH_all (rs := [1, 10]) (by kernel_rfl) (by simp) ?_
  intro i hi
  simp only [List.mem_cons, List.not_mem_nil, or_false] at hi
  rcases hi with rfl | rfl
  · exact run1 H.ea (X.c0 W H.d) (fun v' W' hr => ⟨(H.c0 X hr.2 hr.1).d, node110 X (H.c0 X hr.2 hr.1)⟩)
  · exact run10 ⟨(H.a7 X).d, node011 X (H.a7 X)⟩
theorem node000 (X : Cx p a0 w Q ga gb) (H : Nd p a0 w v u 0 (none : Option Nat) (none : Option Nat) a W) : wpAnyH Try.prog .any ops Q (fun W => Below w.heap.size w W) (F (none : Option Nat) (none : Option Nat) + 10) (L 0 (none : Option Nat).isSome (none : Option Nat).isSome false) a W := by
  refine wpAnyH_all (rs := [1, 9, 10]) (by kernel_rfl) (by simp) ?_
  intro i hi
  simp only [List.mem_cons, List.not_mem_nil, or_false] at hi
  rcases hi with rfl | rfl | rfl
  · exact run1 H.ea (X.c0 W H.d) (fun v' W' hr => ⟨(H.c0 X hr.2 hr.1).d, node100 X (H.c0 X hr.2 hr.1)⟩)
  · exact run9 ⟨(H.a6 X).d, node010 X (H.a6 X)⟩
  · exact run10 ⟨(H.a7 X).d, node001 X (H.a7 X)⟩
/-- The region. -/
theorem whole (X : Cx p a0 w Q ga gb) : (Code.region 28 ops true).wp Try.prog Q a0 w := by
  refine wp_region_held_drew (S := (fun W => Below w.heap.size w W)) (by kernel_rfl) (below_drew (Below.refl _ _)) (fun d0 => ?_)
  refine wpAnyH_take (i := 0) (oi := o0) (v := p.A) rfl (by kernel_rfl) (by kernel_rfl) (by kernel_rfl) (fun c a w h => X.hp c a 105 _ w h) (Or.inl ⟨by rfl, fun W2 h2 => ?p0⟩) d0 ?r0
  case p0 =>
    have hu := Try.underlying25
    have h0 := X.pa
    obtain ⟨h1, h3, h4, h5, h6⟩ := X.ya W2 h2
    unfold o0 Dt.A
    go_simp
  refine wpAnyH_take (i := 2) (oi := o2) (v := p.B) rfl (by kernel_rfl) (by kernel_rfl) (by kernel_rfl) (fun c a w h => X.hp c a 107 _ w h) (Or.inl ⟨by rfl, fun W2 h2 => ?p1⟩) d0 ?r1
  case p1 =>
    have hu := Try.underlying27
    have h0 := X.pb
    obtain ⟨h1, h3⟩ := X.yb W2 h2
    unfold o2 o0 Dt.B
    go_simp
  have q1 : (st a0 105 p.A).tmps.size = 141 := Array.size_setIfInBounds.trans X.sz
  have H : Nd p a0 w undef ⟨undef, undef, undef, undef⟩ 0 none none (st (st a0 105 p.A) 107 p.B) w.drew := ⟨((Fa.refl D a0).put (d := 105) (by decide) _).put (d := 107) (by decide) _, d0, st_ne (by decide) (st_eq (by rw [X.sz]; decide)), st_eq (by rw [q1]; decide), fun h => absurd h (by decide), fun h => absurd h (by decide), fun h => absurd h (by decide), fun g hg => absurd hg (by simp), fun g hg => absurd hg (by simp)⟩
  exact node000 X H
end
end R28
end Go.Proofs.Ytcnkacbgcmnokaa.XA.Law
