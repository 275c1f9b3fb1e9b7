-- Written for this claim: a contract of one function, proved by hand; the places of its template filled by a program.
import Derived.Test.YtcefdpjlpjgaiaaXK0
import Derived.Test.YtcefdpjlpjgaiaaXK6
import Derived.Test.YtcefdpjlpjgaiaaXK7
import Derived.Test.YtcefdpjlpjgaiaaXK8
import Derived.Test.YtcefdpjlpjgaiaaXKHCloneInt
import Derived.Test.YtcefdpjlpjgaiaaXKHrootsCode
import Derived.Lib.SliceRun
import Derived.Deep.RegionWith
import Derived.Test.YtcefdpjlpjgaiaaSepK
namespace Go.Proofs.Ytcefdpjlpjgaiaa.XK
open Go Go.RowKit Go.Proofs.YtcefdpjlpjgaiaaW.PrintWords Go.Proofs.YtcefdpjlpjgaiaaW.PrintLast Go.Proofs.YtcefdpjlpjgaiaaW.PrintMore
set_option linter.unusedVariables false
set_option linter.unusedSimpArgs false
/-! The forest of what the roots lead to, told anew by places. -/
def impl_Compact.bs (k : Nat) (keep : List Int) (i : Int) : Option Int := (slices_BinarySearch_int_int.f k keep i).map (·.1)
def impl_Compact.mp {β : Type} (g : Int → Option β) : List Int → Option (List β)
  | [] => some []
  | x :: xs => (g x).bind fun y => (impl_Compact.mp g xs).bind fun ys => some (y :: ys)
theorem impl_Compact.mp_get {β : Type} (g : Int → Option β) : ∀ (l : List Int) (ys : List β), impl_Compact.mp g l = some ys → ys.length = l.length ∧ ∀ i, i < l.length → ∀ z zy, g (l.getD i z) = some (ys.getD i zy)
  | [], ys, h => by
    obtain rfl := Option.some.inj h
    exact ⟨rfl, fun i hi => absurd hi (Nat.not_lt_zero i)⟩
  | x :: xs, ys, h => by
    unfold impl_Compact.mp at h
    obtain ⟨y, hy, h⟩ := Option.bind_eq_some_iff.1 h
    obtain ⟨ys', hys, h⟩ := Option.bind_eq_some_iff.1 h
    obtain rfl := Option.some.inj h
    obtain ⟨h1, h2⟩ := impl_Compact.mp_get g xs ys' hys
    refine ⟨by simp [h1], fun i hi z zy => ?_⟩
    cases i with
    | zero => simpa using hy
    | succ i => simpa using h2 i (by simpa using hi) z zy
def impl_Compact.nd (k : Nat) (xs : List S58) (keep : List Int) (i : Int) : Option S58 :=
  if 0 ≤ i ∧ i < (xs.length : Int) then (impl_copyNode.f (rd_T58 xs i).f0 (rd_T58 xs i).f1 (rd_T58 xs i).f2 (rd_T58 xs i).f3).bind fun t => (impl_Compact.mp (impl_Compact.bs k keep) t.2.2.2).bind fun ks => some ⟨t.1, t.2.1, t.2.2.1, ks⟩ else none
def impl_Compact.id (k : Nat) (keep : List Int) (r : Int) : Option Int := if r = -1 then some r else impl_Compact.bs k keep r
def impl_Compact.cf (k : Nat) (xs : List S58) (roots : List Int) : Option (List S58 × List Int) :=
  (impl_Forest_reached.f k xs roots).bind fun keep => if keep.length < 1759218604441 ∧ roots.length < 1099511627776 then (impl_Compact.mp (impl_Compact.nd k xs keep) keep).bind fun ns => (impl_Compact.mp (impl_Compact.id k keep) roots).bind fun ids => some (ns, ids) else none
def impl_Compact.f (k : Nat) (l0 : List S58) (l1 : List Int) : Option (List S58 × List Int × Int) :=
  (impl_rootsCode.f k l0 l1).bind fun t => if t = 0 then (impl_Compact.cf k l0 l1).bind fun r => some (r.1, r.2, 0) else some ([], [], t)
set_option maxHeartbeats 1000000 in
/-- The place of a number among those that are kept. -/
theorem impl_Compact.num (k gb b c : Nat) (A : Option Addr) (keep : List Int) (i r : Int) (ok : Nat → Prop) (w : World) (hb : w.heap[gb]? = some (.cells #[.slice A keep.length c] 25 (0, 0))) (hk : (Kd.int .i64).R 3 w b ok (.slice A keep.length c) keep) (h : impl_Compact.bs k keep i = some r) :
    Calls Try.prog 41 #[.int .i64 i, .pointer (some ⟨gb, 0, none⟩)] w fun e w' => e = .returned (.int .i64 r) ∧ Drawn0 w w' := by
  obtain ⟨⟨r1, r2⟩, h1, rfl⟩ := Option.map_eq_some_iff.1 h
  have hcz : w.cell? ⟨gb, 0, none⟩ = some (.slice A keep.length c) := (blk_cell hb 0).trans rfl
  have HK := Aside0.mk (Kd.R_reads' hk).2
  have H1 := Aside0.mk h1
  clear h h1 hk hb
  go_enter Try.func41, Try.ntmps41
  go_wp2_with (go_at_call 42; (with_reducible refine (slices_BinarySearch_int_int.calls k A c keep i r1 r2 _ HK.out.2 HK.out.1 H1.out).mono ?_); rintro e w2 ⟨rfl, hd⟩; have D := Aside0.mk hd; clear hd)
  go_ret
  exact ⟨rfl, D.out⟩
theorem impl_Compact.head {W : World} {base : Nat} {ok : Nat → Prop} {A : Option Addr} {n c : Nat} {l : List Int} (h : (Kd.int .i64).R 3 W base ok (.slice A n c) l) (i : Nat) (hi : i < n) :
    ∃ g, A = some ⟨g, 0, none⟩ ∧ W.cell? ⟨g, i, none⟩ = some (.int .i64 (l.getD i 0)) ∧ W.frozen? ⟨g, i, none⟩ = false := by
  have hn := (Kd.R_reads' h).1
  obtain ⟨g, cap, e, _⟩ := Kd.R_form h (by omega)
  injection e with e1 _ _
  subst e1
  obtain ⟨cs, hcl, hM, hcc, hfr⟩ := Kd.R_elem h 0 (i : Int) (by omega) (by omega)
  have hM' : cs = [.int .i64 (l.getD (i : Int).toNat 0)] := hM
  subst hM'
  have h1 := hcc 0 _ rfl
  have h2 := hfr 0
  simp only [show (Kd.int .i64).sz = 1 from rfl, Int.toNat_natCast, Nat.mul_one, Nat.add_zero] at h1 h2
  exact ⟨g, rfl, h1, h2⟩
theorem impl_Compact.turn (ks ms : List Int) (j : Nat) (h1 : ks.length = ms.length) (h : j < ms.length) : (ks.take j ++ ms.drop j).set j (ks.getD j 0) = ks.take (j + 1) ++ ms.drop (j + 1) := by
  have hl : (ks.take j).length = j := by rw [List.length_take]; omega
  rw [List.set_append_right _ _ (by omega), hl, Nat.sub_self, List.drop_eq_getElem_cons h, List.take_succ_eq_append_getElem (by omega), List.getD_eq_getElem?_getD, List.getElem?_eq_getElem (by omega : j < ks.length), List.append_assoc]
  rfl
theorem impl_Compact.turn_get (ks ms : List Int) (j : Nat) (h1 : ks.length = ms.length) (h : j < ms.length) : (ks.take j ++ ms.drop j).getD j 0 = ms.getD j 0 := by
  have hl : (ks.take j).length = j := by rw [List.length_take]; omega
  rw [List.getD_eq_getElem?_getD, List.getElem?_append_right (by omega), hl, Nat.sub_self, List.getElem?_drop, Nat.add_zero, ← List.getD_eq_getElem?_getD]
theorem impl_Compact.turn_end (ks ms : List Int) (h1 : ks.length = ms.length) : ks.take ms.length ++ ms.drop ms.length = ks := by
  rw [List.drop_length, List.append_nil, List.take_of_length_le (by omega)]
theorem impl_Compact.copy_is (b : Bool) (l1 l2 : List ByteArray) (l3 : List Int) (r : Bool × List ByteArray × List ByteArray × List Int) (h : impl_copyNode.f b l1 l2 l3 = some r) : r = (b, l1, l2, l3) ∧ l3.length < 1099511627776 := by
  unfold impl_copyNode.f slices_Clone_int_int.f slices_Clone_string_string.f at h
  obtain ⟨t1, e1, h⟩ := Option.bind_eq_some_iff.1 h
  obtain ⟨t2, e2, h⟩ := Option.bind_eq_some_iff.1 h
  obtain ⟨t3, e3, h⟩ := Option.bind_eq_some_iff.1 h
  obtain ⟨_, e1⟩ := Option.ite_none_right_eq_some.1 e1
  obtain ⟨_, e2⟩ := Option.ite_none_right_eq_some.1 e2
  obtain ⟨hl, e3⟩ := Option.ite_none_right_eq_some.1 e3
  obtain rfl := Option.some.inj e1
  obtain rfl := Option.some.inj e2
  obtain rfl := Option.some.inj e3
  exact ⟨(Option.some.inj h).symm, hl⟩
theorem impl_Compact.wr2 (i n : Nat) (h0 : i < n) (h1 : n < 1759218604441) : wrap64 ((i : Int) + 1) = ((i + 1 : Nat) : Int) := by unfold wrap64; omega
/-- The run's places, and what is kept so far. -/
structure impl_Compact.Out (w : World) (A0 : Option Addr) (c0 n0 gb2 gb4 gb6 gb8 : Nat) (Ak : Option Addr) (ck : Nat) (keep : List Int) (W : World) (v : Value) (ns : List S58) : Prop where
  b2 : W.heap[gb2]? = some (.cells #[.slice A0 n0 c0] 31 (0, 0))
  b4 : W.heap[gb4]? = some (.cells #[.slice none 0 0] 31 (0, 0))
  b6 : W.heap[gb6]? = some (.cells #[.slice Ak keep.length ck] 25 (0, 0))
  b8 : W.heap[gb8]? = some (.cells #[v] 31 (0, 0))
  hk : (Kd.int .i64).R 3 W w.heap.size (fun _ => True) (.slice Ak keep.length ck) keep
  ho : Kd.S kx 58 W w.heap.size (fun k => some k ≠ (Value.slice Ak keep.length ck).ownBlock) v ns
  hb : Below w.heap.size w W
  g4 : w.heap.size ≤ gb4
  g8 : w.heap.size ≤ gb8
  n2 : gb2 ≠ gb8
  n4 : gb4 ≠ gb8
  n6 : gb6 ≠ gb8
section
variable {w : World} {A0 : Option Addr} {c0 n0 gb2 gb4 gb6 gb8 : Nat} {Ak : Option Addr} {ck : Nat} {keep : List Int} {W W' : World} {v v' : Value} {ns ns' : List S58}
theorem impl_Compact.Out.below (O : impl_Compact.Out w A0 c0 n0 gb2 gb4 gb6 gb8 Ak ck keep W v ns) (h : Below W.heap.size W W') : impl_Compact.Out w A0 c0 n0 gb2 gb4 gb6 gb8 Ak ck keep W' v ns :=
  ⟨blk_below O.b2 h, blk_below O.b4 h, blk_below O.b6 h, blk_below O.b8 h, Kd.R_below O.hk h, Kd.S_below O.ho h, below_step O.hb h, O.g4, O.g8, O.n2, O.n4, O.n6⟩
theorem impl_Compact.Out.start {w2 : World} (hk : (Kd.int .i64).R 3 w2 ((w.alloc (.cells #[.slice A0 n0 c0] 31)).alloc (.cells #[.slice none 0 0] 31)).heap.size (fun _ => True) (.slice Ak keep.length ck) keep)
    (hb : Below ((w.alloc (.cells #[.slice A0 n0 c0] 31)).alloc (.cells #[.slice none 0 0] 31)).heap.size ((w.alloc (.cells #[.slice A0 n0 c0] 31)).alloc (.cells #[.slice none 0 0] 31)) w2) :
    impl_Compact.Out w A0 c0 n0 w.heap.size (w.heap.size + 1) w2.heap.size (w2.heap.size + 1) Ak ck keep ((w2.alloc (.cells #[.slice Ak keep.length ck] 25)).alloc (.cells #[.slice none 0 0] 31)) (.slice none 0 0) [] := by
  have h0 := blk_new w (.cells #[.slice A0 n0 c0] 31)
  have h1 := blk_new (w.alloc (.cells #[.slice A0 n0 c0] 31)) (.cells #[.slice none 0 0] 31)
  have h2 := blk_new w2 (.cells #[.slice Ak keep.length ck] 25)
  have h3 := blk_new (w2.alloc (.cells #[.slice Ak keep.length ck] 25)) (.cells #[.slice none 0 0] 31)
  rw [World.size_alloc] at h1 h3
  have hs := hb.size
  rw [World.size_alloc, World.size_alloc] at hs
  exact ⟨blk_alloc (blk_alloc (blk_below (blk_alloc h0 _) hb) _) _, blk_alloc (blk_alloc (blk_below h1 hb) _) _, blk_alloc h2 _, h3, Kd.R_alloc (Kd.R_alloc (Kd.R_lower hk (by rw [World.size_alloc, World.size_alloc]; omega)) _) _, Kd.S_nil _ _ _ _ _,
    below_alloc (below_alloc ((below_alloc (below_alloc (Below.refl _ _) _) _).trans (hb.mono (by rw [World.size_alloc, World.size_alloc]; omega))) _) _, by omega, by omega, by omega, by omega, by omega⟩
/-- A node more. -/
theorem impl_Compact.Out.more (O : impl_Compact.Out w A0 c0 n0 gb2 gb4 gb6 gb8 Ak ck keep W v ns) (hg : W.grownBy W' v.ownBlock) (hB : Below w.heap.size w W') (hs : Kd.S kx 58 W' w.heap.size (fun k => some k ≠ (Value.slice Ak keep.length ck).ownBlock) v' ns') : impl_Compact.Out w A0 c0 n0 gb2 gb4 gb6 gb8 Ak ck keep (W'.setCell ⟨gb8, 0, none⟩ v') v' ns' := by
  have h2 := blk_grown O.b2 hg (Kd.S_ne O.ho O.b2 (by decide))
  have h4 := blk_grown O.b4 hg (Kd.S_ne O.ho O.b4 (by decide))
  have h6 := blk_grown O.b6 hg (Kd.S_ne O.ho O.b6 (by decide))
  have h8 := blk_grown O.b8 hg (Kd.S_ne O.ho O.b8 (by decide))
  have hk := Kd.R_grown2 O.hk rfl hg (fun k h => (Kd.S_R O.ho).1 k h)
  exact ⟨blk_far h2 O.n2 _, blk_far h4 O.n4 _, blk_far h6 O.n6 _, blk_put h8 0 _ rfl, Kd.R_set hk h8 (by decide) 0 _, Kd.S_set hs h8 (by decide) 0 _, hB.setCell (p := ⟨gb8, 0, none⟩) O.g8 _, O.g4, O.g8, O.n2, O.n4, O.n6⟩
end
/-- A node that is being told anew: its box, its rows. -/
structure impl_Compact.In (wr : World) (gb : Nat) (b : Bool) (v1 v2 v3 : Value) (l1 l2 : List ByteArray) (W : World) (l3 : List Int) : Prop where
  b11 : W.heap[gb]? = some (.cells #[.bool b, v1, v2, v3] 58 (0, 0))
  r1 : Kd.string.R 9 W wr.heap.size (fun k => some k ≠ v2.ownBlock) v1 l1
  r2 : Kd.string.R 9 W wr.heap.size (fun k => some k ≠ v1.ownBlock) v2 l2
  r3 : (Kd.int .i64).R 3 W wr.heap.size (fun _ => True) v3 l3
  d : Below wr.heap.size wr W
section
variable {wr W : World} {gb : Nat} {b : Bool} {v1 v2 v3 : Value} {l1 l2 : List ByteArray} {l3 : List Int}
theorem impl_Compact.In.start {w3 : World} (r1 : Kd.string.R 9 w3 wr.heap.size (fun k => some k ≠ v2.ownBlock) v1 l1) (r2 : Kd.string.R 9 w3 wr.heap.size (fun k => some k ≠ v1.ownBlock) v2 l2) (r3 : (Kd.int .i64).R 3 w3 wr.heap.size (fun _ => True) v3 l3) (hb : Below wr.heap.size wr w3) :
    impl_Compact.In wr w3.heap.size b v1 v2 v3 l1 l2 (w3.alloc (.cells #[.bool b, v1, v2, v3] 58)) l3 :=
  ⟨blk_new _ _, Kd.R_alloc r1 _, Kd.R_alloc r2 _, Kd.R_alloc r3 _, below_alloc hb _⟩
theorem impl_Compact.In.below {W' : World} (I : impl_Compact.In wr gb b v1 v2 v3 l1 l2 W l3) (h : Below W.heap.size W W') : impl_Compact.In wr gb b v1 v2 v3 l1 l2 W' l3 :=
  ⟨blk_below I.b11 h, Kd.R_below I.r1 h, Kd.R_below I.r2 h, Kd.R_below I.r3 h, below_step I.d h⟩
theorem impl_Compact.In.put {g n c : Nat} (I : impl_Compact.In wr gb b v1 v2 (.slice (some ⟨g, 0, none⟩) n c) l1 l2 W l3) (j : Nat) (x : Int) : impl_Compact.In wr gb b v1 v2 (.slice (some ⟨g, 0, none⟩) n c) l1 l2 (W.setCell ⟨g, j, none⟩ (.int .i64 x)) (l3.set j x) := by
  obtain ⟨cells, hc⟩ := Kd.R_typed I.r3 g (by simp [Value.ownBlock])
  have hge := Kd.R_base I.r3 g (by simp [Value.ownBlock])
  have h3 := Kd.R_putn I.r3 (j : Int) x
  rw [Int.toNat_natCast] at h3
  refine ⟨blk_far I.b11 (fun e => ?_) _, Kd.R_set I.r1 hc (by decide) j _, Kd.R_set I.r2 hc (by decide) j _, h3, I.d.setCell (p := ⟨g, j, none⟩) hge _⟩
  have := I.b11
  dsimp only at e
  rw [e, hc] at this
  injection this with h
  injection h with _ h
  exact absurd h (by decide)
theorem impl_Compact.In.node {base : Nat} (I : impl_Compact.In wr gb b v1 v2 v3 l1 l2 W l3) (hb : base ≤ wr.heap.size) : kx.M W base (fun k => wr.heap.size ≤ k ∧ k < W.heap.size) ⟨b, l1, l2, l3⟩ [.bool b, v1, v2, v3] := by
  refine Kd.M_lower kx hb (kx_mk W wr.heap.size _ (fun k => some k = v1.ownBlock) (fun k => some k = v2.ownBlock) (fun k => some k = v3.ownBlock) ⟨b, l1, l2, l3⟩ ?_ ?_ ?_ (Kd.R_tight rfl I.r1) (Kd.R_tight rfl I.r2) (Kd.R_tight rfl I.r3))
  · exact fun k hk => ⟨Kd.R_base I.r1 k hk.symm, Kd.R_lt I.r1 k hk.symm⟩
  · exact fun k hk => ⟨⟨Kd.R_base I.r2 k hk.symm, Kd.R_lt I.r2 k hk.symm⟩, fun h => I.r2.1 k hk.symm h⟩
  · intro k hk
    obtain ⟨cells, hc⟩ := Kd.R_typed I.r3 k hk.symm
    exact ⟨⟨⟨Kd.R_base I.r3 k hk.symm, Kd.R_lt I.r3 k hk.symm⟩, fun h => Kd.R_ne I.r1 hc (by decide) h⟩, fun h => Kd.R_ne I.r2 hc (by decide) h⟩
end
set_option maxHeartbeats 4000000 in
theorem impl_Compact.cmp (k : Nat) (A0 : Option Addr) (c0 : Nat) (l0 : List S58) (A1 : Option Addr) (c1 : Nat) (l1 : List Int) (ns : List S58) (ids : List Int) (w : World) (hr0 : Kd.C k58 w A0 l0.length l0) (hc0 : l0.length ≤ c0) (hr1 : Kd.C (Kd.int .i64) w A1 l1.length l1) (hc1 : l1.length ≤ c1) (h : impl_Compact.cf k l0 l1 = some (ns, ids)) :
    Calls Try.prog 28 #[.agg #[.slice A0 l0.length c0], .slice A1 l1.length c1] w fun e w' => ∃ v0_ v1_ : Value, e = .returned (.tuple #[.agg #[v0_], v1_]) ∧ Kd.S kx 58 w' w.heap.size (fun k_ => some k_ ≠ (v1_ : Value).ownBlock) v0_ ns ∧ Kd.R (Kd.int .i64) 3 w' w.heap.size (fun _ => True) v1_ ids ∧ Below w.heap.size w w' := by
  have hu31 := Try.underlying31
  have hu58 := Try.underlying58
  have hmf : ∀ (fn : Fn) (first cap : Array Value) (w : World), (Instr.makeFunc fn first cap).run Try.prog w = .ok (.func fn first cap) w := fun _ _ _ _ => rfl
  obtain ⟨keep, hkeep, h1⟩ := Option.bind_eq_some_iff.1 h
  obtain ⟨⟨hkl, hrl⟩, h2⟩ := Option.ite_none_right_eq_some.1 h1
  obtain ⟨ns', hns, h3⟩ := Option.bind_eq_some_iff.1 h2
  obtain ⟨ids', hids, h4⟩ := Option.bind_eq_some_iff.1 h3
  have h_ := Option.some.inj h4
  injection h_ with e1 e2
  subst e1 e2
  clear h h1 h2 h3 h4
  have HR0 := Aside0.mk hr0
  have HC0 := Aside0.mk hc0
  have HR1 := Aside0.mk hr1
  have HC1 := Aside0.mk hc1
  have HKEEP := Aside0.mk hkeep
  have HKL := Aside0.mk hkl
  have HRL := Aside0.mk hrl
  have HNS := Aside0.mk (impl_Compact.mp_get _ _ _ hns)
  have HIDS := Aside0.mk (impl_Compact.mp_get _ _ _ hids)
  clear hr0 hc0 hr1 hc1 hkeep hkl hrl hns hids
  go_enter Try.func28, Try.ntmps28
  go_upto_region 4 with (first
    | (go_at_call 23; (with_reducible refine (impl_Forest_reached.calls k A0 c0 l0 A1 c1 l1 keep _ ?s1 HC0.out ?s2 HC1.out HKEEP.out).mono ?_); (case s1 => exact Kd.C_below HR0.out (below_alloc (below_alloc (Below.refl _ _) _) _)); (case s2 => exact Kd.C_below HR1.out (below_alloc (below_alloc (Below.refl _ _) _) _)); rintro e w2 ⟨v0, rfl, hk, hb⟩; obtain ⟨Ak, ck, rfl⟩ := Kd.R_slice hk; have HK := Aside0.mk hk; have HB := Aside0.mk hb; clear hk hb))
  have OS := Aside0.mk (impl_Compact.Out.start HK.out HB.out)
  clear HK HB
  generalize ((w2.alloc (.cells #[.slice Ak keep.length ck] 25)).alloc (.cells #[.slice none 0 0] 31)) = W1 at OS ⊢
  obtain ⟨gb6, hgb6⟩ : ∃ gb6, gb6 = w2.heap.size := ⟨_, rfl⟩
  obtain ⟨gb8, hgb8⟩ : ∃ gb8, gb8 = w2.heap.size + 1 := ⟨_, rfl⟩
  obtain ⟨gb2, hgb2⟩ : ∃ gb2, gb2 = w.heap.size := ⟨_, rfl⟩
  obtain ⟨gb4, hgb4⟩ : ∃ gb4, gb4 = w.heap.size + 1 := ⟨_, rfl⟩
  rw [← hgb8, ← hgb6, ← hgb4, ← hgb2] at OS ⊢
  obtain ⟨M, hM⟩ : ∃ M, M = w.heap.size := ⟨_, rfl⟩
  clear hgb2 hgb4 hgb6 hgb8
  have hcz6 : W1.cell? ⟨gb6, 0, none⟩ = some (.slice Ak keep.length ck) := (blk_cell OS.out.b6 0).trans rfl
  go_wp2
  go_loopg [24] keep.length (fun gg s24 wr => ∃ (i : Nat) (v : Value), s24 = .int .i64 (i : Int) ∧ Aside0 (i ≤ keep.length ∧ keep.length ≤ i + gg) ∧ Aside0 (impl_Compact.Out w A0 c0 l0.length gb2 gb4 gb6 gb8 Ak ck keep wr v (ns'.take i)))
  case atStart => exact ⟨0, _, rfl, ⟨by omega⟩, OS⟩
  case round =>
    clear OS hcz6
    obtain ⟨i, v, rfl, HI, HO⟩ := hrel
    obtain ⟨wo, rfl⟩ : ∃ wo, wo = wr := ⟨_, rfl⟩
    obtain ⟨go, rfl⟩ : ∃ go, go = gk := ⟨_, rfl⟩
    by_cases hin : i < keep.length
    · have cc : decide ((i : Int) < (keep.length : Int)) = true := decide_eq_true (by omega)
      obtain ⟨x, hx⟩ : ∃ x, x = keep.getD i 0 := ⟨_, rfl⟩
      obtain ⟨gk', hgk, hcK, hfK⟩ := impl_Compact.head HO.out.hk i hin
      subst hgk
      rw [← hx] at hcK
      have hnode := HNS.out.2 i hin 0 z58
      rw [← hx] at hnode
      obtain ⟨⟨hx0, hx1⟩, hnode⟩ := Option.ite_none_right_eq_some.1 hnode
      obtain ⟨⟨b, m1, m2, m3⟩, hcopy, hnode⟩ := Option.bind_eq_some_iff.1 hnode
      obtain ⟨ks, hks, hnode⟩ := Option.bind_eq_some_iff.1 hnode
      have hm3 : m3.length < 1099511627776 := by
        obtain ⟨e, hl⟩ := impl_Compact.copy_is _ _ _ _ _ hcopy
        injection e with _ e
        injection e with _ e
        injection e with _ e
        rw [e]
        exact hl
      have HCOPY := Aside0.mk hcopy
      have HKS := Aside0.mk (impl_Compact.mp_get _ _ _ hks)
      have HNODE := Aside0.mk (Option.some.inj hnode)
      clear hcopy hks hnode hx
      dsimp only at HKS HNODE
      obtain ⟨ad, B1, d1, B2, d2, B3, d3, e0, hy0, hy1, hy2, hy3, hl1, hi1, hl2, hi2, hl3, hi3⟩ := at_T58 HR0.out x hx0 hx1
      cases e0
      replace hy0 := (HO.out.hb.cell (World.block_lt_of_cell? w _ hy0)).trans hy0
      replace hy1 := (HO.out.hb.cell (World.block_lt_of_cell? w _ hy1)).trans hy1
      replace hy2 := (HO.out.hb.cell (World.block_lt_of_cell? w _ hy2)).trans hy2
      replace hy3 := (HO.out.hb.cell (World.block_lt_of_cell? w _ hy3)).trans hy3
      have G1 := Aside0.mk (And.intro hl1 (Kd.C_below hi1 HO.out.hb))
      have G2 := Aside0.mk (And.intro hl2 (Kd.C_below hi2 HO.out.hb))
      have G3 := Aside0.mk (And.intro hl3 (Kd.C_below hi3 HO.out.hb))
      clear hl1 hi1 hl2 hi2 hl3 hi3
      have hz2 : wo.cell? ⟨gb2, 0, none⟩ = some (.slice (some ad) l0.length c0) := (blk_cell HO.out.b2 0).trans rfl
      have p1 : (0 : Int) ≤ (i : Int) := Int.natCast_nonneg i
      have p2 : (i : Int) < (keep.length : Int) := Int.ofNat_lt.2 hin
      go_upto_region 8 with (go_at_call 43; (with_reducible refine (impl_copyNode.calls (rd_T58 l0 x).f0 B1 d1 (rd_T58 l0 x).f1 B2 d2 (rd_T58 l0 x).f2 B3 d3 (rd_T58 l0 x).f3 b m1 m2 m3 wo G1.out.2 G1.out.1 G2.out.2 G2.out.1 G3.out.2 G3.out.1 HCOPY.out).mono ?_); rintro e w3 ⟨v1, v2, v3, rfl, r1, r2, r3, hb⟩; obtain ⟨K1, k1, rfl⟩ := Kd.R_slice r1; obtain ⟨K2, k2, rfl⟩ := Kd.R_slice r2; obtain ⟨K3, k3, rfl⟩ := Kd.R_slice r3; have IN := Aside0.mk (impl_Compact.In.start (b := b) r1 r2 r3 hb); clear r1 r2 r3 hb)
      generalize (w3.alloc (.cells #[.bool b, .slice K1 m1.length k1, .slice K2 m2.length k2, .slice K3 m3.length k3] 58)) = W4 at IN ⊢
      generalize w3.heap.size = gb11 at IN ⊢
      clear hy0 hy1 hy2 hy3 hcK hfK hz2 G1 G2 G3 HCOPY
      have hz3 : W4.cell? ⟨gb11, 3, none⟩ = some (.slice K3 m3.length k3) := (blk_cell IN.out.b11 3).trans rfl
      go_wp2
      go_loopg [37] m3.length (fun gg s37 wi => ∃ (j : Nat), s37 = .int .i64 (j : Int) ∧ Aside0 (j ≤ m3.length ∧ m3.length ≤ j + gg) ∧ Aside0 (impl_Compact.In wo gb11 b (.slice K1 m1.length k1) (.slice K2 m2.length k2) (.slice K3 m3.length k3) m1 m2 wi (ks.take j ++ m3.drop j)))
      case atStart => exact ⟨0, rfl, ⟨by omega⟩, by simpa using IN⟩
      case round =>
        clear IN hz3
        obtain ⟨j, rfl, HJ, IN⟩ := hrel
        by_cases hjn : j < m3.length
        · have cj : decide ((j : Int) < (m3.length : Int)) = true := decide_eq_true (by omega)
          obtain ⟨g3, hg3, hc3, hf3⟩ := impl_Compact.head IN.out.r3 j hjn
          subst hg3
          obtain ⟨y, hy⟩ : ∃ y, y = m3.getD j 0 := ⟨_, rfl⟩
          rw [impl_Compact.turn_get ks m3 j HKS.out.1 hjn, ← hy] at hc3
          have hnum := HKS.out.2 j hjn 0 0
          rw [← hy] at hnum
          obtain ⟨kj, hkj⟩ : ∃ kj, kj = ks.getD j 0 := ⟨_, rfl⟩
          rw [← hkj] at hnum
          have PUT : Aside0 (∀ m : Nat, impl_Compact.In wo gb11 b (.slice K1 m1.length k1) (.slice K2 m2.length k2) (.slice (some ⟨g3, 0, none⟩) m3.length k3) m1 m2 ((wr.drewN m).setCell ⟨g3, j, none⟩ (.int .i64 kj)) (ks.take (j + 1) ++ m3.drop (j + 1))) := ⟨fun m => by
            have h := (IN.out.below (pw_below_drewN (Below.refl _ _) m)).put j kj
            rw [hkj, impl_Compact.turn ks m3 j HKS.out.1 hjn, ← hkj] at h
            exact h⟩
          have HNUM := Aside0.mk hnum
          have hw2 := impl_Compact.wr2 j m3.length hjn (by omega)
          clear hnum hy hkj
          have hz3 : wr.cell? ⟨gb11, 3, none⟩ = some (.slice (some ⟨g3, 0, none⟩) m3.length k3) := (blk_cell IN.out.b11 3).trans rfl
          have q1 : (0 : Int) ≤ (j : Int) := Int.natCast_nonneg j
          have q2 : (j : Int) < (m3.length : Int) := Int.ofNat_lt.2 hjn
          have P6 : Aside0 (∀ W, Below wr.heap.size wr W → W.heap[gb6]? = some (.cells #[.slice (some ⟨gk', 0, none⟩) keep.length ck] 25 (0, 0)) ∧ (Kd.int .i64).R 3 W w.heap.size (fun _ => True) (.slice (some ⟨gk', 0, none⟩) keep.length ck) keep) := ⟨fun W hW => ⟨((HO.out.below IN.out.d).below hW).b6, ((HO.out.below IN.out.d).below hW).hk⟩⟩
          go_wp2
          go_region_with (go_at_call 41; (with_reducible refine (impl_Compact.num k gb6 w.heap.size ck (some ⟨gk', 0, none⟩) keep y kj (fun _ => True) _ ?b6 ?hk HNUM.out).mono ?_); (case b6 => exact (P6.out _ (below_drew (Below.refl _ _))).1); (case hk => exact (P6.out _ (below_drew (Below.refl _ _))).2); rintro e w5 ⟨rfl, hd⟩; obtain ⟨nn, rfl⟩ := hd.out; clear hd)
          all_goals (go_wp2; go_roundg (gk - 1); (case measure => have := HJ.out; omega); (case rel => exact ⟨j + 1, by first | rfl | (rw [hw2]; done), ⟨by have := HJ.out; omega⟩, ⟨PUT.out _⟩⟩))
        · have cj : decide ((j : Int) < (m3.length : Int)) = false := decide_eq_false (by omega)
          have hni : j = m3.length := by have := HJ.out; omega
          subst hni
          rw [impl_Compact.turn_end ks m3 HKS.out.1] at IN
          have hz8 : wr.cell? ⟨gb8, 0, none⟩ = some v := (blk_cell (HO.out.below IN.out.d).b8 0).trans rfl
          have hy0 : wr.cell? ⟨gb11, 0, none⟩ = some (.bool b) := (blk_cell IN.out.b11 0).trans rfl
          have hy1 : wr.cell? ⟨gb11, 1, none⟩ = some (.slice K1 m1.length k1) := (blk_cell IN.out.b11 1).trans rfl
          have hy2 : wr.cell? ⟨gb11, 2, none⟩ = some (.slice K2 m2.length k2) := (blk_cell IN.out.b11 2).trans rfl
          have hy3 : wr.cell? ⟨gb11, 3, none⟩ = some (.slice K3 m3.length k3) := (blk_cell IN.out.b11 3).trans rfl
          have hw2 := impl_Compact.wr2 i keep.length hin HKL.out
          have AP := Aside0.mk (IN.out.node (base := w.heap.size) HO.out.hb.size)
          have AQ : Aside0 (∀ k_, (wo.heap.size ≤ k_ ∧ k_ < wr.heap.size) → some k_ ≠ (Value.slice (some ⟨gk', 0, none⟩) keep.length ck).ownBlock ∧ some k_ ≠ v.ownBlock) := ⟨fun k_ hk => ⟨fun e => by have := Kd.R_lt HO.out.hk k_ e.symm; omega, fun e => by have := Kd.S_lt HO.out.ho k_ e.symm; omega⟩⟩
          have AF : Aside0 (∀ k_, wr.heap.size ≤ k_ → some k_ ≠ (Value.slice (some ⟨gk', 0, none⟩) keep.length ck).ownBlock) := ⟨fun k_ hk e => by have := Kd.R_lt HO.out.hk k_ e.symm; have := IN.out.d.size; omega⟩
          have AO : Aside0 (Kd.S kx 58 wr w.heap.size (fun k_ => some k_ ≠ (Value.slice (some ⟨gk', 0, none⟩) keep.length ck).ownBlock ∧ ¬ (wo.heap.size ≤ k_ ∧ k_ < wr.heap.size)) v (ns'.take i)) := ⟨Kd.S_mono (Kd.S_below (Kd.S_bound HO.out.ho) IN.out.d) (fun k_ hk => ⟨hk.1, fun h => by have := hk.2.2.1; omega⟩)⟩
          have AL : Aside0 (((ns'.take i).length + 1) * 80 ≤ 140737488355328) := ⟨by have := HKL.out; rw [List.length_take]; omega⟩
          have OC := Aside0.mk (HO.out.below IN.out.d)
          clear HO IN HKS
          go_wp2_with ((with_reducible refine gate_builtin (b := .append) (xs := #[.tmp 51, .tmp 53]) rfl ?_); at_builtin; refine Kd.S_append kx (w0 := w) w.heap.size rfl (.tmp 51) (.tmp 53) 29 58 (.agg #[(.bool false), (.slice none 0 0), (.slice none 0 0), (.slice none 0 0)]) 80 rfl Try.underlying29 info58 rfl (by decide) (by omega) v (ns'.take i) (⟨b, m1, m2, ks⟩ : S58) [.bool b, .slice K1 m1.length k1, .slice K2 m2.length k2, .slice K3 m3.length k3] (fun k_ => some k_ ≠ (Value.slice (some ⟨gk', 0, none⟩) keep.length ck).ownBlock) (fun k_ => wo.heap.size ≤ k_ ∧ k_ < wr.heap.size) rfl rfl AP.out AQ.out AF.out AO.out OC.out.hb OC.out.hb.size AL.out ?_; intro v6 w6 hs hb hg hat; obtain ⟨A6, c6, e6⟩ := Kd.S_slice hs; generalize List.length _ = n6 at e6; subst e6; have HS6 := Aside0.mk hs; have HB6 := Aside0.mk hb; have HG6 := Aside0.mk hg; clear hs hb hg hat; have hz9 : w6.cell? ⟨gb8, 0, none⟩ = some v := (blk_cell (blk_grown OC.out.b8 HG6.out (Kd.S_ne OC.out.ho OC.out.b8 (by decide))) 0).trans rfl; have hf9 := blk_frozen (blk_grown OC.out.b8 HG6.out (Kd.S_ne OC.out.ho OC.out.b8 (by decide))) 0)
          go_roundg (go - 1)
          case measure => have := HI.out; omega
          case rel =>
            have hm := OC.out.more HG6.out HB6.out HS6.out
            have ht : ns'.take i ++ [(⟨b, m1, m2, ks⟩ : S58)] = ns'.take (i + 1) := by
              have hl : i < ns'.length := by have := HNS.out.1; omega
              rw [HNODE.out, List.take_succ_eq_append_getElem hl, List.getD_eq_getElem?_getD, List.getElem?_eq_getElem hl]
              rfl
            rw [ht] at hm
            exact ⟨i + 1, _, by first | rfl | (rw [hw2]; done), ⟨by have := HI.out; omega⟩, ⟨hm⟩⟩
    · have cc : decide ((i : Int) < (keep.length : Int)) = false := decide_eq_false (by omega)
      have hni : i = keep.length := by have := HI.out; omega
      subst hni
      have hfin : ns'.take keep.length = ns' := List.take_of_length_le (by rw [HNS.out.1]; exact Nat.le_refl _)
      rw [hfin] at HO
      clear hfin hin HNS
      go_upto_region 16 with (go_at_call 44; (with_reducible refine (slices_Clone_int_int.calls A1 c1 l1 l1 wo (Kd.C_below HR1.out HO.out.hb) HC1.out (by unfold slices_Clone_int_int.f; rw [if_pos HRL.out])).mono ?_); rintro e w4 ⟨v1, rfl, hr, hb⟩; obtain ⟨An, cn, rfl⟩ := Kd.R_slice hr; have HN := Aside0.mk hr; have HB := Aside0.mk hb; clear hr hb)
      have OC := Aside0.mk (HO.out.below HB.out)
      go_wp2
      go_loopg [61] l1.length (fun gg s61 wr => ∃ (j : Nat), s61 = .int .i64 (j : Int) ∧ Aside0 (j ≤ l1.length ∧ l1.length ≤ j + gg) ∧ Aside0 ((Kd.int .i64).R 3 wr wo.heap.size (fun _ => True) (.slice An l1.length cn) (ids'.take j ++ l1.drop j)) ∧ Aside0 (Below wo.heap.size wo wr))
      case atStart => exact ⟨0, rfl, ⟨by omega⟩, by simpa using HN, HB⟩
      case round =>
        clear OC HN HB
        obtain ⟨j, rfl, HJ, HN, HB⟩ := hrel
        by_cases hjn : j < l1.length
        · have cj : decide ((j : Int) < (l1.length : Int)) = true := decide_eq_true (by omega)
          obtain ⟨g3, hg3, hc3, hf3⟩ := impl_Compact.head HN.out j hjn
          subst hg3
          have q1 : (0 : Int) ≤ (j : Int) := Int.natCast_nonneg j
          have q2 : (j : Int) < (l1.length : Int) := Int.ofNat_lt.2 hjn
          obtain ⟨ar, har, hcr⟩ := Kd.at_int HR1.out (j : Int) q1 q2
          subst har
          obtain ⟨y, hy⟩ : ∃ y, y = l1.getD j 0 := ⟨_, rfl⟩
          have hy' : rd l1 (j : Int) = y := by rw [hy]; rfl
          rw [impl_Compact.turn_get ids' l1 j HIDS.out.1 hjn, ← hy] at hc3
          rw [hy', Int.toNat_natCast] at hcr
          replace hcr := (HB.out.cell (Nat.lt_of_lt_of_le (World.block_lt_of_cell? w _ hcr) HO.out.hb.size)).trans ((HO.out.hb.cell (World.block_lt_of_cell? w _ hcr)).trans hcr)
          have hid := HIDS.out.2 j hjn 0 0
          rw [← hy] at hid
          obtain ⟨kj, hkj⟩ : ∃ kj, kj = ids'.getD j 0 := ⟨_, rfl⟩
          rw [← hkj] at hid
          have hge := Kd.R_base HN.out g3 (by simp [Value.ownBlock])
          have hset : (ids'.take j ++ l1.drop j).set j kj = ids'.take (j + 1) ++ l1.drop (j + 1) := by rw [hkj]; exact impl_Compact.turn ids' l1 j HIDS.out.1 hjn
          have hold : (ids'.take j ++ l1.drop j).getD j 0 = y := by rw [impl_Compact.turn_get ids' l1 j HIDS.out.1 hjn, hy]
          have hlen : j < (ids'.take j ++ l1.drop j).length := by rw [List.length_append, List.length_take, List.length_drop]; have := HIDS.out.1; omega
          have hw2 := impl_Compact.wr2 j l1.length hjn (by have := HRL.out; omega)
          have PUT : Aside0 (∀ m : Nat, (Kd.int .i64).R 3 ((wr.drewN m).setCell ⟨g3, j, none⟩ (.int .i64 kj)) wo.heap.size (fun _ => True) (.slice (some ⟨g3, 0, none⟩) l1.length cn) (ids'.take (j + 1) ++ l1.drop (j + 1)) ∧ Below wo.heap.size wo ((wr.drewN m).setCell ⟨g3, j, none⟩ (.int .i64 kj))) := ⟨fun m => by
            have h := Kd.R_putn (Kd.R_drewN HN.out m) (j : Int) kj
            rw [Int.toNat_natCast, hset] at h
            exact ⟨h, (HB.out.trans ((pw_below_drewN (Below.refl _ _) m).mono HB.out.size)).setCell (p := ⟨g3, j, none⟩) hge _⟩⟩
          have P6 : Aside0 (wr.heap[gb6]? = some (.cells #[.slice Ak keep.length ck] 25 (0, 0)) ∧ (Kd.int .i64).R 3 wr w.heap.size (fun _ => True) (.slice Ak keep.length ck) keep) := ⟨(HO.out.below HB.out).b6, (HO.out.below HB.out).hk⟩
          by_cases hm1 : y = -1
          · have c2 : (y != (-1 : Int)) = false := by rw [hm1]; rfl
            unfold impl_Compact.id at hid
            rw [if_pos hm1] at hid
            have hky : kj = y := (Option.some.inj hid).symm
            have STAY : Aside0 ((Kd.int .i64).R 3 wr wo.heap.size (fun _ => True) (.slice (some ⟨g3, 0, none⟩) l1.length cn) (ids'.take (j + 1) ++ l1.drop (j + 1))) := ⟨by
              have h := HN.out
              have e : ids'.take (j + 1) ++ l1.drop (j + 1) = ids'.take j ++ l1.drop j := by
                rw [← hset, hky, ← hold, List.getD_eq_getElem?_getD, List.getElem?_eq_getElem hlen]
                exact List.set_getElem_self hlen
              rw [e]
              exact h⟩
            clear hid hy hkj hset hold hlen hge hky hy' hc3 hf3 hjn
            go_wp2
            go_roundg (gk - 1)
            case measure => have := HJ.out; omega
            case rel => exact ⟨j + 1, by first | rfl | (rw [hw2]; done), ⟨by have := HJ.out; omega⟩, STAY, HB⟩
          · have c2 : (y != (-1 : Int)) = true := by simpa using hm1
            unfold impl_Compact.id at hid
            rw [if_neg hm1] at hid
            have HNUM := Aside0.mk hid
            clear hid hy hkj hset hold hlen hge hy' hjn
            go_wp2_with (go_at_call 41; (with_reducible refine (impl_Compact.num k gb6 w.heap.size ck Ak keep y kj (fun _ => True) _ P6.out.1 P6.out.2 HNUM.out).mono ?_); rintro e w5 ⟨rfl, hd⟩; obtain ⟨nn, rfl⟩ := hd.out; clear hd)
            go_roundg (gk - 1)
            case measure => have := HJ.out; omega
            case rel => exact ⟨j + 1, by first | rfl | (rw [hw2]; done), ⟨by have := HJ.out; omega⟩, ⟨(PUT.out _).1⟩, ⟨(PUT.out _).2⟩⟩
        · have cj : decide ((j : Int) < (l1.length : Int)) = false := decide_eq_false (by omega)
          have hni : j = l1.length := by have := HJ.out; omega
          subst hni
          rw [impl_Compact.turn_end ids' l1 HIDS.out.1] at HN
          have OC := Aside0.mk (HO.out.below HB.out)
          have hz8 : wr.cell? ⟨gb8, 0, none⟩ = some v := (blk_cell OC.out.b8 0).trans rfl
          have hz4 : wr.cell? ⟨gb4, 0, none⟩ = some (.slice none 0 0) := (blk_cell OC.out.b4 0).trans rfl
          have hf4 := blk_frozen OC.out.b4 0
          obtain ⟨Av, cv, ev⟩ := Kd.S_slice OC.out.ho
          generalize List.length _ = nv at ev
          subst ev
          have OW := Aside0.mk HO.out.hb.size
          have OS := Aside0.mk (Kd.S_lt HO.out.ho)
          have SB := Aside0.mk (Kd.S_bound HO.out.ho)
          clear HO
          go_wp2
          refine bodyPost_ret (results_ct rfl _ _ gb4 31 #[.slice Av nv cv] (0, 0) _ rfl (blk_put (cs := #[.slice none 0 0]) OC.out.b4 0 _ rfl) Try.underlying31 rfl (by kernel_rfl)) rfl ⟨_, _, rfl, ?_, ?_, ?_⟩
          · exact Kd.S_set (Kd.S_mono (Kd.S_below (Kd.S_mono SB.out (fun k_ hk => (hk.2.2.1 : k_ < wo.heap.size))) HB.out) (fun k_ hk e => by have := Kd.R_base HN.out k_ e.symm; omega)) OC.out.b4 (by decide) 0 _
          · exact Kd.R_lower (Kd.R_set HN.out OC.out.b4 (by decide) 0 _) OW.out
          · exact OC.out.hb.setCell (p := ⟨gb4, 0, none⟩) OC.out.g4 _
set_option maxHeartbeats 4000000 in
theorem impl_Compact.calls (k : Nat) (A0 : Option Addr) (c0 : Nat) (l0 : List S58) (A1 : Option Addr) (c1 : Nat) (l1 : List Int) (r1 : List S58) (r2 : List Int) (r3 : Int) (w : World) (hr0 : Kd.C k58 w A0 l0.length l0) (hc0 : l0.length ≤ c0) (hr1 : Kd.C (Kd.int .i64) w A1 l1.length l1) (hc1 : l1.length ≤ c1) (h : impl_Compact.f k l0 l1 = some (r1, r2, r3)) :
    Calls Try.prog 16 #[.agg #[.slice A0 l0.length c0], .slice A1 l1.length c1] w fun e w' => ∃ v0_ v1_ : Value, e = .returned (.tuple #[.agg #[v0_], v1_, .int .i64 r3]) ∧ Kd.S kx 58 w' w.heap.size (fun k_ => some k_ ≠ (v1_ : Value).ownBlock) v0_ r1 ∧ Kd.R (Kd.int .i64) 3 w' w.heap.size (fun _ => True) v1_ r2 ∧ Below w.heap.size w w' := by
  have hu31 := Try.underlying31
  obtain ⟨t, ht, h1⟩ := Option.bind_eq_some_iff.1 h
  have HR0 := Aside0.mk hr0
  have HC0 := Aside0.mk hc0
  have HR1 := Aside0.mk hr1
  have HC1 := Aside0.mk hc1
  have HT := Aside0.mk ht
  have B0 : Aside0 (Below w.heap.size w ((w.alloc (.cells #[.slice A0 l0.length c0] 31)).alloc (.cells #[.slice none 0 0] 31))) := ⟨below_alloc (below_alloc (Below.refl _ _) _) _⟩
  have X2 : Aside0 (((w.alloc (.cells #[.slice A0 l0.length c0] 31)).alloc (.cells #[.slice none 0 0] 31)).heap[w.heap.size]? = some (.cells #[.slice A0 l0.length c0] 31 (0, 0))) := ⟨blk_alloc (blk_new _ _) _⟩
  have X4 : Aside0 (((w.alloc (.cells #[.slice A0 l0.length c0] 31)).alloc (.cells #[.slice none 0 0] 31)).heap[w.heap.size + 1]? = some (.cells #[.slice none 0 0] 31 (0, 0))) := ⟨by
    have h := blk_new (w.alloc (.cells #[.slice A0 l0.length c0] 31)) (.cells #[.slice none 0 0] 31)
    rw [World.size_alloc] at h
    exact h⟩
  clear hr0 hc0 hr1 hc1 ht h
  go_enter Try.func16, Try.ntmps16
  go_upto_region 2 with (go_at_call 22; (with_reducible refine (impl_rootsCode.calls k A0 c0 l0 A1 c1 l1 t _ (Kd.C_below HR0.out B0.out) HC0.out (Kd.C_below HR1.out B0.out) HC1.out HT.out).mono ?_); rintro e w2 ⟨rfl, hb⟩; have D2 := Aside0.mk (below_step B0.out hb); have Y2 := Aside0.mk (blk_below X2.out hb); have Y4 := Aside0.mk (blk_below X4.out hb); clear hb)
  clear X2 X4 B0 HT
  obtain ⟨gb2, hgb2⟩ : ∃ gb2, gb2 = w.heap.size := ⟨_, rfl⟩
  obtain ⟨gb4, hgb4⟩ : ∃ gb4, gb4 = w.heap.size + 1 := ⟨_, rfl⟩
  rw [← hgb4] at Y4 ⊢
  rw [← hgb2] at Y2
  have hge : w.heap.size ≤ gb4 := by omega
  have HGE := Aside0.mk hge
  have hzz : ∀ (Z : World → Prop), Z w2 → Z w2 := fun _ h => h
  rw [show (Value.pointer (some ⟨w.heap.size, 0, none⟩)) = .pointer (some ⟨gb2, 0, none⟩) by rw [hgb2]]
  clear hgb2 hgb4 hge hzz
  have hz4 : w2.cell? ⟨gb4, 0, none⟩ = some (.slice none 0 0) := (blk_cell Y4.out 0).trans rfl
  have hf4 := blk_frozen Y4.out 0
  have hz2 : w2.cell? ⟨gb2, 0, none⟩ = some (.slice A0 l0.length c0) := (blk_cell Y2.out 0).trans rfl
  by_cases c2 : t = 0
  · rw [if_pos c2] at h1
    obtain ⟨⟨ns, ids⟩, hcf, h2⟩ := Option.bind_eq_some_iff.1 h1
    have h_ := Option.some.inj h2
    injection h_ with e1 e2
    injection e2 with e2 e3
    dsimp only at e1 e2
    subst e1 e2 e3
    have HCF := Aside0.mk hcf
    clear h1 h2 hcf
    have cc : (t != (0 : Int)) = false := by rw [c2]; rfl
    clear c2
    go_wp2_with (go_at_call 28; (with_reducible refine (impl_Compact.cmp k A0 c0 l0 A1 c1 l1 ns ids _ (Kd.C_below HR0.out D2.out) HC0.out (Kd.C_below HR1.out D2.out) HC1.out HCF.out).mono ?_); rintro e w3 ⟨v0, v1, rfl, hs, hr, hb⟩; obtain ⟨Av, cv, ev⟩ := Kd.S_slice hs; generalize List.length _ = nv at ev; subst ev; have HS := Aside0.mk hs; have HI := Aside0.mk hr; have D3 := Aside0.mk (below_step D2.out hb); have DS := Aside0.mk D2.out.size; have Y5 := Aside0.mk (blk_below Y4.out hb); clear hs hr hb hz4 hf4 hz2; have Y6 := Aside0.mk (blk_alloc Y5.out (.cells #[.slice Av nv cv] 31)); have hz6 := (blk_cell Y6.out 0).trans (rfl : _ = some (Value.slice none 0 0)); have hf6 := blk_frozen Y6.out 0)
    refine bodyPost_ret (results_ctt rfl _ _ gb4 31 #[.slice Av nv cv] (0, 0) _ rfl (blk_put (cs := #[.slice none 0 0]) Y6.out 0 _ rfl) Try.underlying31 rfl (by kernel_rfl)) rfl ⟨_, _, rfl, ?_, ?_, ?_⟩
    · exact Kd.S_lower (Kd.S_set (Kd.S_alloc HS.out _) Y6.out (by decide) 0 _) DS.out
    · exact Kd.R_lower (Kd.R_set (Kd.R_alloc HI.out _) Y6.out (by decide) 0 _) DS.out
    · exact (below_alloc D3.out _).setCell (p := ⟨gb4, 0, none⟩) HGE.out _
  · rw [if_neg c2] at h1
    have h_ := Option.some.inj h1
    injection h_ with e1 e2
    injection e2 with e2 e3
    subst e1 e2 e3
    have cc : (t != (0 : Int)) = true := by simpa using c2
    clear c2 h1
    go_wp2
    refine bodyPost_ret (results_ctt rfl _ _ gb4 31 #[.slice none 0 0] (0, 0) _ rfl (blk_put (cs := #[.slice none 0 0]) Y4.out 0 _ rfl) Try.underlying31 rfl (by kernel_rfl)) rfl ⟨_, _, rfl, Kd.S_nil _ _ _ _ _, Kd.R_nil _ _ _ _ _, D2.out.setCell (p := ⟨gb4, 0, none⟩) HGE.out _⟩

end Go.Proofs.Ytcefdpjlpjgaiaa.XK
