-- Written for this claim: a contract of one function, proved by hand; the places of its template filled by a program.
import Derived.Test.YtcefdpjlpjgaiaaXK0
import Derived.Test.YtcefdpjlpjgaiaaXK10
import Derived.Test.YtcefdpjlpjgaiaaXKHimplCompact
import Derived.Test.YtcefdpjlpjgaiaaXKHspecOwn
import Derived.Lib.SliceRun
namespace Go.Proofs.Ytcefdpjlpjgaiaa.XK
open Go Go.RowKit Go.Proofs.YtcefdpjlpjgaiaaW.PrintWords Go.Proofs.YtcefdpjlpjgaiaaW.PrintLast Go.Proofs.YtcefdpjlpjgaiaaW.PrintMore
set_option linter.unusedVariables false
set_option linter.unusedSimpArgs false
/-! The reference's forest of what the roots lead to: its nodes share rows with the forest that was given, so they are told as cells and a side word. -/
def spec_Compact.pl (place : List Int) (x : Int) : Option Int := if 0 ≤ x ∧ x < (place.length : Int) then some (place.getD x.toNat 0) else none
def spec_Compact.go (xs : List S58) : Nat → List Bool → List Int → List S58 → Option (List Int × List S58)
  | _, [], place, ns => some (place, ns)
  | i, m :: ms, place, ns => if m = true then (if i < xs.length ∧ (rd_T58 xs i).f3.length < 1099511627776 then (impl_Compact.mp (spec_Compact.pl (place ++ [(ns.length : Int)])) (rd_T58 xs i).f3).bind fun ks => spec_Compact.go xs (i + 1) ms (place ++ [(ns.length : Int)]) (ns ++ [⟨(rd_T58 xs i).f0, (rd_T58 xs i).f1, (rd_T58 xs i).f2, ks⟩]) else none) else spec_Compact.go xs (i + 1) ms (place ++ [(ns.length : Int)]) ns
def spec_Compact.id (place : List Int) (r : Int) : Option Int := if r < 0 then some (-1) else spec_Compact.pl place r
def spec_Compact.cf (k : Nat) (xs : List S58) (roots : List Int) : Option (List S58 × List Int) :=
  (spec_l05Marks.f k xs roots).bind fun marks => if marks.length < 1099511627776 ∧ roots.length < 1099511627776 then (spec_Compact.go xs 0 marks [] []).bind fun r => (impl_Compact.mp (spec_Compact.id r.1) roots).bind fun ids => some (r.2, ids) else none
def spec_Compact.f (k : Nat) (l0 : List S58) (l1 : List Int) : Option (List S58 × List Int × Int) :=
  if (4096 : Int) < (l1.length : Int) then some ([], [], 2) else (spec_l05Roots.f k l0 l1).bind fun t => if t = 0 then (spec_Compact.cf k l0 l1).bind fun r => (spec_l05Own.f k r.1).bind fun o => some (o, r.2, 0) else some ([], [], t)
abbrev spec_Compact.Z := Bool × List Value × List Value × List Int
/-- A node as cells: two of its rows are told beside. -/
def spec_Compact.kz : Kd spec_Compact.Z := Kd.pair Kd.bool (Kd.pair (Kd.raw 1) (Kd.pair (Kd.raw 1) (Kd.slice 3 (Kd.int .i64))))
theorem spec_Compact.kz_mk (w : World) (base : Nat) (ok : Nat → Prop) (b : Bool) (A1 : Option Addr) (n1 c1 : Nat) (A2 : Option Addr) (n2 c2 : Nat) (v3 : Value) (l : List Int) (h : (Kd.int .i64).R 3 w base ok v3 l) : spec_Compact.kz.M w base ok (b, [.slice A1 n1 c1], [.slice A2 n2 c2], l) [.bool b, .slice A1 n1 c1, .slice A2 n2 c2, v3] :=
  ⟨[.bool b], [.slice A1 n1 c1, .slice A2 n2 c2, v3], rfl, rfl, [.slice A1 n1 c1], [.slice A2 n2 c2, v3], rfl, ⟨rfl, rfl, fun u hu => by rw [List.mem_singleton.1 hu]; rfl⟩, [.slice A2 n2 c2], [v3], rfl, ⟨rfl, rfl, fun u hu => by rw [List.mem_singleton.1 hu]; rfl⟩, v3, rfl, h⟩
def spec_Compact.Rel (w : World) (z : spec_Compact.Z) (x : S58) : Prop :=
  z.1 = x.f0 ∧ (∃ A c, z.2.1 = [.slice A x.f1.length c] ∧ x.f1.length ≤ c ∧ Kd.string.C w A x.f1.length x.f1) ∧ (∃ A c, z.2.2.1 = [.slice A x.f2.length c] ∧ x.f2.length ≤ c ∧ Kd.string.C w A x.f2.length x.f2) ∧ z.2.2.2 = x.f3
def spec_Compact.Rels (w : World) (zs : List spec_Compact.Z) (ns : List S58) : Prop := zs.length = ns.length ∧ ∀ (j : Nat) (z : spec_Compact.Z) (x : S58), zs[j]? = some z → ns[j]? = some x → spec_Compact.Rel w z x
theorem spec_Compact.Rels.snoc {w : World} {zs : List spec_Compact.Z} {ns : List S58} (h : spec_Compact.Rels w zs ns) {z : spec_Compact.Z} {x : S58} (hz : spec_Compact.Rel w z x) : spec_Compact.Rels w (zs ++ [z]) (ns ++ [x]) := by
  refine ⟨by simp [h.1], fun j z' x' h1 h2 => ?_⟩
  by_cases hj : j < zs.length
  · rw [List.getElem?_append_left hj] at h1
    rw [List.getElem?_append_left (by rw [← h.1]; exact hj)] at h2
    exact h.2 j z' x' h1 h2
  · rw [List.getElem?_append_right (by omega)] at h1
    rw [List.getElem?_append_right (by rw [← h.1]; omega), ← h.1] at h2
    have h0 : j - zs.length = 0 := by
      have := (List.getElem?_eq_some_iff.1 h1).1
      simp at this
      omega
    rw [h0] at h1 h2
    obtain rfl := Option.some.inj h1
    obtain rfl := Option.some.inj h2
    exact hz
/-- How they read. -/
theorem spec_Compact.reads {w W : World} (hB : Below w.heap.size w W) {e base : Nat} {ok : Nat → Prop} {v : Value} {zs : List spec_Compact.Z} {ns : List S58} (h : Kd.S spec_Compact.kz e W base ok v zs) (hr : spec_Compact.Rels w zs ns) : ∃ A c, v = .slice A ns.length c ∧ ns.length ≤ c ∧ Kd.C k58 W A ns.length ns := by
  obtain ⟨A, c, rfl, hl, h1, h2, h3⟩ := Kd.S_reads h
  rw [hr.1] at hl h2 h3
  refine ⟨A, c, by rw [hr.1], hl, rfl, h2, fun hp => ?_⟩
  obtain ⟨ad, rfl, h4⟩ := h3 hp
  refine ⟨ad, rfl, fun j x hx => ?_⟩
  have hj := (List.getElem?_eq_some_iff.1 hx).1
  have hz : zs[j]? = some (zs[j]'(by rw [hr.1]; exact hj)) := List.getElem?_eq_getElem _
  obtain ⟨cs, h5, h6, h7⟩ := h4 j _ hz
  refine ⟨cs, h5, ?_, h7⟩
  obtain ⟨q1, ⟨A1, d1, q2, q3, q4⟩, ⟨A2, d2, q5, q6, q7⟩, q8⟩ := hr.2 j _ x hz hx
  obtain ⟨c0, c1, rfl, e0, c2, c3, rfl, ⟨e1, _, _⟩, c4, c5, rfl, ⟨e2, _, _⟩, e3⟩ := h6
  have e0' : c0 = [.bool (zs[j]'(by rw [hr.1]; exact hj)).1] := e0
  rw [q1] at e0'
  rw [q2] at e1
  rw [q5] at e2
  rw [q8] at e3
  subst e0' e1 e2
  exact ⟨_, _, rfl, rfl, _, _, rfl, ⟨A1, d1, rfl, q3, Kd.C_below q4 hB⟩, _, _, rfl, ⟨A2, d2, rfl, q6, Kd.C_below q7 hB⟩, e3⟩
structure spec_Compact.Sp (w : World) (A0 : Option Addr) (c0 n0 gb2 gb4 gb7 : Nat) (mv : Value) (marks : List Bool) (W : World) (pv : Value) (place : List Int) (v : Value) (zs : List spec_Compact.Z) (ns : List S58) : Prop where
  b2 : W.heap[gb2]? = some (.cells #[.slice A0 n0 c0] 31 (0, 0))
  b4 : W.heap[gb4]? = some (.cells #[.slice none 0 0] 31 (0, 0))
  b7 : W.heap[gb7]? = some (.cells #[v] 31 (0, 0))
  hm : Kd.bool.R 4 W w.heap.size (fun _ => True) mv marks
  hp : (Kd.int .i64).R 3 W w.heap.size (fun _ => True) pv place
  ho : Kd.S spec_Compact.kz 58 W w.heap.size (fun k => some k ≠ pv.ownBlock) v zs
  rel : spec_Compact.Rels w zs ns
  hb : Below w.heap.size w W
  g4 : w.heap.size ≤ gb4
  g7 : w.heap.size ≤ gb7
  n2 : gb2 ≠ gb7
  n4 : gb4 ≠ gb7
section
variable {w : World} {A0 : Option Addr} {c0 n0 gb2 gb4 gb7 : Nat} {mv : Value} {marks : List Bool} {W W' : World} {pv pv' v v' : Value} {place place' : List Int} {zs zs' : List spec_Compact.Z} {ns ns' : List S58}
theorem spec_Compact.Sp.below (O : spec_Compact.Sp w A0 c0 n0 gb2 gb4 gb7 mv marks W pv place v zs ns) (h : Below W.heap.size W W') : spec_Compact.Sp w A0 c0 n0 gb2 gb4 gb7 mv marks W' pv place v zs ns :=
  ⟨blk_below O.b2 h, blk_below O.b4 h, blk_below O.b7 h, Kd.R_below O.hm h, Kd.R_below O.hp h, Kd.S_below O.ho h, O.rel, below_step O.hb h, O.g4, O.g7, O.n2, O.n4⟩
/-- A place more. -/
theorem spec_Compact.Sp.add (O : spec_Compact.Sp w A0 c0 n0 gb2 gb4 gb7 mv marks W pv place v zs ns) (hg : W.grownBy W' pv.ownBlock) (hB : Below w.heap.size w W') (hs : (Kd.int .i64).R 3 W' w.heap.size (fun _ => True) pv' place') (hat : pv'.ownBlock = pv.ownBlock ∨ ∃ b, pv'.ownBlock = some b ∧ W.heap.size ≤ b) : spec_Compact.Sp w A0 c0 n0 gb2 gb4 gb7 mv marks W' pv' place' v zs ns :=
  ⟨blk_grown O.b2 hg (Kd.R_ne O.hp O.b2 (by decide)), blk_grown O.b4 hg (Kd.R_ne O.hp O.b4 (by decide)), blk_grown O.b7 hg (Kd.R_ne O.hp O.b7 (by decide)),
    Kd.R_grown2 O.hm rfl hg (fun k h e => by
      obtain ⟨cells, hc⟩ := Kd.R_typed O.hp k h
      exact Kd.R_ne O.hm hc (by decide) e), hs,
    Kd.S_mono (Kd.S_after (ok := fun _ => True) (Kd.S_mono O.ho (fun k hk => ⟨trivial, hk⟩)) hg hat) (fun k hk => hk.2), O.rel, hB, O.g4, O.g7, O.n2, O.n4⟩
/-- A node more. -/
theorem spec_Compact.Sp.more (O : spec_Compact.Sp w A0 c0 n0 gb2 gb4 gb7 mv marks W pv place v zs ns) (hg : W.grownBy W' v.ownBlock) (hB : Below w.heap.size w W') (hs : Kd.S spec_Compact.kz 58 W' w.heap.size (fun k => some k ≠ pv.ownBlock) v' zs') (hr : spec_Compact.Rels w zs' ns') : spec_Compact.Sp w A0 c0 n0 gb2 gb4 gb7 mv marks (W'.setCell ⟨gb7, 0, none⟩ v') pv place v' zs' ns' := by
  have h2 := blk_grown O.b2 hg (Kd.S_ne O.ho O.b2 (by decide))
  have h4 := blk_grown O.b4 hg (Kd.S_ne O.ho O.b4 (by decide))
  have h7 := blk_grown O.b7 hg (Kd.S_ne O.ho O.b7 (by decide))
  have hp := Kd.R_grown2 O.hp rfl hg (fun k h => (Kd.S_R O.ho).1 k h)
  have hm := Kd.R_grown2 O.hm rfl hg (fun k h e => by
    obtain ⟨cells, hc⟩ := Kd.S_typed O.ho k h
    exact Kd.R_ne O.hm hc (by decide) e)
  exact ⟨blk_far h2 O.n2 _, blk_far h4 O.n4 _, blk_put h7 0 _ rfl, Kd.R_set hm h7 (by decide) 0 _, Kd.R_set hp h7 (by decide) 0 _, Kd.S_set hs h7 (by decide) 0 _, hr, hB.setCell (p := ⟨gb7, 0, none⟩) O.g7 _, O.g4, O.g7, O.n2, O.n4⟩
/-- A store into a box that is younger than all. -/
theorem spec_Compact.Sp.box {g : Nat} (O : spec_Compact.Sp w A0 c0 n0 gb2 gb4 gb7 mv marks W pv place v zs ns) (hg : W.heap.size ≤ g) (h : Below W.heap.size W W') (j : Nat) (u : Value) : spec_Compact.Sp w A0 c0 n0 gb2 gb4 gb7 mv marks (W'.setCell ⟨g, j, none⟩ u) pv place v zs ns :=
  O.below (h.trans ((Below.refl _ W').setCell (p := ⟨g, j, none⟩) hg u))
end
theorem spec_Compact.empty {α : Type} (d : Kd α) (e : Nat) (W : World) (base g : Nat) (ok : Nat → Prop) (hb : W.heap[g]? = some (.cells #[] e (0, 0))) (hg : base ≤ g) (hok : ok g) : d.R e W base ok (.slice (some ⟨g, 0, none⟩) 0 0) [] := by
  refine ⟨fun k hk => ?_, [], ?_, Reps.none _ _⟩
  · have : g = k := by simpa [Value.ownBlock] using hk
    exact this ▸ hok
  · exact ⟨by simp, .inr ⟨g, 0, #[], rfl, hg, hb, Nat.le_refl _, by unfold maxLen; omega, by simp, by simp⟩⟩
theorem spec_Compact.Sp.start {w w2 : World} {A0 : Option Addr} {c0 n0 gb2 gb4 : Nat} {mv : Value} {marks : List Bool} (D : Below w.heap.size w w2) (b2 : w2.heap[gb2]? = some (.cells #[.slice A0 n0 c0] 31 (0, 0))) (b4 : w2.heap[gb4]? = some (.cells #[.slice none 0 0] 31 (0, 0))) (hm : Kd.bool.R 4 w2 w.heap.size (fun _ => True) mv marks) (h4 : w.heap.size ≤ gb4) :
    spec_Compact.Sp w A0 c0 n0 gb2 gb4 (w2.heap.size + 1) mv marks (((w2.alloc (.cells #[] 58)).alloc (.cells #[.slice (some ⟨w2.heap.size, 0, none⟩) 0 0] 31)).alloc (.cells #[] 3)) (.slice (some ⟨w2.heap.size + 1 + 1, 0, none⟩) 0 0) [] (.slice (some ⟨w2.heap.size, 0, none⟩) 0 0) [] [] := by
  have h0 := blk_new w2 (.cells #[] 58)
  have h1 := blk_new (w2.alloc (.cells #[] 58)) (.cells #[.slice (some ⟨w2.heap.size, 0, none⟩) 0 0] 31)
  have h2 := blk_new ((w2.alloc (.cells #[] 58)).alloc (.cells #[.slice (some ⟨w2.heap.size, 0, none⟩) 0 0] 31)) (.cells #[] 3)
  rw [World.size_alloc] at h1
  rw [World.size_alloc, World.size_alloc] at h2
  have hs := D.size
  have l2 := blk_lt b2
  have l4 := blk_lt b4
  exact ⟨blk_alloc (blk_alloc (blk_alloc b2 _) _) _, blk_alloc (blk_alloc (blk_alloc b4 _) _) _, blk_alloc h1 _, Kd.R_alloc (Kd.R_alloc (Kd.R_alloc hm _) _) _, spec_Compact.empty _ 3 _ _ _ _ h2 (by omega) trivial,
    Kd.S_bare (spec_Compact.empty _ 58 _ _ _ _ (blk_alloc (blk_alloc h0 _) _) (by omega) (by simp [Value.ownBlock]; omega)), ⟨rfl, fun j z x h => by simp at h⟩, below_alloc (below_alloc (below_alloc D _) _) _, h4, by omega, by omega, by omega⟩
theorem spec_Compact.headB {W : World} {base : Nat} {ok : Nat → Prop} {A : Option Addr} {n c : Nat} {l : List Bool} (h : Kd.bool.R 4 W base ok (.slice A n c) l) (i : Nat) (hi : i < n) :
    ∃ g, A = some ⟨g, 0, none⟩ ∧ W.cell? ⟨g, i, none⟩ = some (.bool (l.getD i false)) := by
  have hn := (Kd.R_reads' h).1
  obtain ⟨g, cap, e, _⟩ := Kd.R_form h (by omega)
  injection e with e1 _ _
  subst e1
  obtain ⟨cs, hcl, hM, hcc, hfr⟩ := Kd.R_elem h false (i : Int) (by omega) (by omega)
  have hM' : cs = [.bool (l.getD (i : Int).toNat false)] := hM
  subst hM'
  have h1 := hcc 0 _ rfl
  simp only [show Kd.bool.sz = 1 from rfl, Int.toNat_natCast, Nat.mul_one, Nat.add_zero] at h1
  exact ⟨g, rfl, h1⟩
theorem spec_Compact.cap8 (ks : List Int) (j n : Nat) (h : j < n) (h1 : n < 1099511627776) : Aside0 (((ks.take j).length + 1) * 8 ≤ 140737488355328) := ⟨by rw [List.length_take]; omega⟩
theorem spec_Compact.eq_end {j n : Nat} (h : ¬ j < n) (h1 : j ≤ n) : j = n := by omega
theorem spec_Compact.cap80 (a n i : Nat) (h : a ≤ i) (h0 : i < n) (h1 : n < 1099511627776) : (a + 1) * 80 ≤ 140737488355328 := by omega
theorem spec_Compact.meas {n i g : Nat} (h : n ≤ i + g) (h0 : i < n) : g - 1 < g := by omega
theorem spec_Compact.next {n i g : Nat} {place pl : List Int} {ns : List S58} {y : S58} {ms : List S58} (h : i ≤ n ∧ n ≤ i + g ∧ place.length = i ∧ ns.length ≤ i) (h0 : i < n) (h1 : pl.length = i + 1) (h2 : ms = ns ++ [y]) : Aside0 (i + 1 ≤ n ∧ n ≤ i + 1 + (g - 1) ∧ pl.length = i + 1 ∧ ms.length ≤ i + 1) := ⟨by rw [h2, List.length_append, List.length_singleton]; omega⟩
/-- Kids that are being gathered. -/
structure spec_Compact.Kq (w3 : World) (gb : Nat) (cs : Array Value) (W : World) (v : Value) (l : List Int) : Prop where
  b : W.heap[gb]? = some (.cells cs 58 (0, 0))
  r : (Kd.int .i64).R 3 W w3.heap.size (fun _ => True) v l
  d : Below w3.heap.size w3 W
theorem spec_Compact.Kq.start (w3 : World) (cs : Array Value) : spec_Compact.Kq w3 w3.heap.size cs ((w3.alloc (.cells cs 58)).alloc (.cells #[] 3)) (.slice (some ⟨w3.heap.size + 1, 0, none⟩) 0 0) [] := by
  have h := blk_new (w3.alloc (.cells cs 58)) (.cells #[] 3)
  rw [World.size_alloc] at h
  exact ⟨blk_alloc (blk_new _ _) _, spec_Compact.empty _ 3 _ _ _ _ h (by omega) trivial, below_alloc (below_alloc (Below.refl _ _) _) _⟩
theorem spec_Compact.Kq.more {w3 : World} {gb : Nat} {cs : Array Value} {W W' : World} {v v' : Value} {l l' : List Int} (K : spec_Compact.Kq w3 gb cs W v l) (hg : W.grownBy W' v.ownBlock) (hr : (Kd.int .i64).R 3 W' w3.heap.size (fun _ => True) v' l') (hb : Below w3.heap.size w3 W') : spec_Compact.Kq w3 gb cs W' v' l' :=
  ⟨blk_grown K.b hg (Kd.R_ne K.r K.b (by decide)), hr, hb⟩
theorem spec_Compact.take_more (ks : List Int) (j : Nat) (h : j < ks.length) : ks.take j ++ [ks.getD j 0] = ks.take (j + 1) := by
  rw [List.take_succ_eq_append_getElem h, List.getD_eq_getElem?_getD, List.getElem?_eq_getElem h]
  rfl
theorem spec_Compact.wr2 (i n : Nat) (h0 : i < n) (h1 : n < 1099511627776) : wrap64 ((i : Int) + 1) = ((i + 1 : Nat) : Int) := by unfold wrap64; omega
set_option maxHeartbeats 4000000 in
theorem spec_Compact.cmp (k : Nat) (A0 : Option Addr) (c0 : Nat) (l0 : List S58) (A1 : Option Addr) (c1 : Nat) (l1 : List Int) (ns : List S58) (ids : List Int) (w : World) (hr0 : Kd.C k58 w A0 l0.length l0) (hc0 : l0.length ≤ c0) (hr1 : Kd.C (Kd.int .i64) w A1 l1.length l1) (hc1 : l1.length ≤ c1) (h : spec_Compact.cf k l0 l1 = some (ns, ids)) :
    Calls Try.prog 26 #[.agg #[.slice A0 l0.length c0], .slice A1 l1.length c1] w fun e w' => ∃ (A : Option Addr) (c : Nat) (v1_ : Value), e = .returned (.tuple #[.agg #[.slice A ns.length c], v1_]) ∧ ns.length ≤ c ∧ Kd.C k58 w' A ns.length ns ∧ Kd.R (Kd.int .i64) 3 w' w.heap.size (fun _ => True) v1_ ids ∧ Below w.heap.size w w' := by
  have hu31 := Try.underlying31
  have hu58 := Try.underlying58
  obtain ⟨marks, hmarks, h1⟩ := Option.bind_eq_some_iff.1 h
  obtain ⟨⟨hml, hrl⟩, h2⟩ := Option.ite_none_right_eq_some.1 h1
  obtain ⟨⟨P, N⟩, hgo, h3⟩ := Option.bind_eq_some_iff.1 h2
  obtain ⟨ids', hids, h4⟩ := Option.bind_eq_some_iff.1 h3
  have h_ := Option.some.inj h4
  injection h_ with e1 e2
  dsimp only at e1 hids
  subst e1 e2
  clear h h1 h2 h3 h4
  have HR0 := Aside0.mk hr0
  have HC0 := Aside0.mk hc0
  have HR1 := Aside0.mk hr1
  have HC1 := Aside0.mk hc1
  have HMARKS := Aside0.mk hmarks
  have HML := Aside0.mk hml
  have HRL := Aside0.mk hrl
  have HGO := Aside0.mk hgo
  have HIDS := Aside0.mk (impl_Compact.mp_get _ _ _ hids)
  have B0 : Aside0 (Below w.heap.size w ((w.alloc (.cells #[.slice A0 l0.length c0] 31)).alloc (.cells #[.slice none 0 0] 31))) := ⟨below_alloc (below_alloc (Below.refl _ _) _) _⟩
  have X2 : Aside0 (((w.alloc (.cells #[.slice A0 l0.length c0] 31)).alloc (.cells #[.slice none 0 0] 31)).heap[w.heap.size]? = some (.cells #[.slice A0 l0.length c0] 31 (0, 0))) := ⟨blk_alloc (blk_new _ _) _⟩
  have X4 : Aside0 (((w.alloc (.cells #[.slice A0 l0.length c0] 31)).alloc (.cells #[.slice none 0 0] 31)).heap[w.heap.size + 1]? = some (.cells #[.slice none 0 0] 31 (0, 0))) := ⟨by
    have h := blk_new (w.alloc (.cells #[.slice A0 l0.length c0] 31)) (.cells #[.slice none 0 0] 31)
    rw [World.size_alloc] at h
    exact h⟩
  have BS : Aside0 (w.heap.size ≤ ((w.alloc (.cells #[.slice A0 l0.length c0] 31)).alloc (.cells #[.slice none 0 0] 31)).heap.size) := ⟨by rw [World.size_alloc, World.size_alloc]; omega⟩
  clear hr0 hc0 hr1 hc1 hmarks hml hrl hids hgo
  go_enter Try.func26, Try.ntmps26
  go_upto_region 2 with (go_at_call 20; (with_reducible refine (spec_l05Marks.calls k A0 c0 l0 A1 c1 l1 marks _ (Kd.C_below HR0.out B0.out) HC0.out (Kd.C_below HR1.out B0.out) HC1.out HMARKS.out).mono ?_); rintro e w2 ⟨mv, rfl, hm, hb⟩; obtain ⟨Am, cm, rfl⟩ := Kd.R_slice hm; have HM := Aside0.mk (Kd.R_lower hm BS.out); have D2 := Aside0.mk (below_step B0.out hb); have Y2 := Aside0.mk (blk_below X2.out hb); have Y4 := Aside0.mk (blk_below X4.out hb); clear hm hb)
  clear X2 X4 B0 HMARKS BS
  obtain ⟨gb2, hgb2⟩ : ∃ gb2, gb2 = w.heap.size := ⟨_, rfl⟩
  obtain ⟨gb4, hgb4⟩ : ∃ gb4, gb4 = w.heap.size + 1 := ⟨_, rfl⟩
  rw [← hgb4] at Y4 ⊢
  rw [← hgb2] at Y2
  have HGE : Aside0 (w.heap.size ≤ gb4 ∧ gb2 < w2.heap.size ∧ gb4 < w2.heap.size) := ⟨by omega, blk_lt Y2.out, blk_lt Y4.out⟩
  rw [show (Value.pointer (some ⟨w.heap.size, 0, none⟩)) = .pointer (some ⟨gb2, 0, none⟩) by rw [hgb2]]
  clear hgb2 hgb4
  go_upto_region 4 with (fail)
  have OS := Aside0.mk (spec_Compact.Sp.start D2.out Y2.out Y4.out HM.out HGE.out.1)
  clear D2 Y2 Y4 HM HGE
  generalize ((w2.alloc (.cells #[] 58)).alloc (.cells #[.slice (some ⟨w2.heap.size, 0, none⟩) 0 0] 31)).alloc (.cells #[] 3) = W1 at OS ⊢
  generalize Value.slice (some ⟨w2.heap.size, 0, none⟩) 0 0 = v0 at OS ⊢
  generalize Value.slice (some ⟨w2.heap.size + 1 + 1, 0, none⟩) 0 0 = pv0 at OS ⊢
  generalize w2.heap.size + 1 = gb7 at OS ⊢
  go_wp2
  go_loopg [8, 9] marks.length (fun gg s8 s9 wr => ∃ (i : Nat) (v : Value) (place : List Int) (zs : List spec_Compact.Z) (ns : List S58), s9 = .int .i64 (i : Int) ∧ Aside0 (i ≤ marks.length ∧ marks.length ≤ i + gg ∧ place.length = i ∧ ns.length ≤ i) ∧ Aside0 (spec_Compact.go l0 i (marks.drop i) place ns = some (P, N)) ∧ Aside0 (spec_Compact.Sp w A0 c0 l0.length gb2 gb4 gb7 (.slice Am marks.length cm) marks wr s8 place v zs ns))
  case atStart => exact ⟨0, _, _, _, _, rfl, ⟨by simp⟩, by simpa using HGO, OS⟩
  case round =>
    clear OS HGO
    obtain ⟨i, v, place, zs, ns, rfl, HI, HG, HO⟩ := hrel
    obtain ⟨wo, rfl⟩ : ∃ wo, wo = wr := ⟨_, rfl⟩
    obtain ⟨go, rfl⟩ : ∃ go, go = gk := ⟨_, rfl⟩
    obtain ⟨pv, rfl⟩ : ∃ pv, pv = u8 := ⟨_, rfl⟩
    by_cases hin : i < marks.length
    · have cc : decide ((i : Int) < (marks.length : Int)) = true := decide_eq_true (by omega)
      obtain ⟨Av, cv, rfl⟩ := Kd.S_slice HO.out.ho
      have hz7 : wo.cell? ⟨gb7, 0, none⟩ = some (.slice Av zs.length cv) := (blk_cell HO.out.b7 0).trans rfl
      have AL : Aside0 ((place.length + 1) * 8 ≤ 140737488355328) := ⟨by have := HML.out; have := HI.out.2.2.1; omega⟩
      go_upto_region 8 with ((with_reducible refine gate_builtin (b := .append) (xs := #[.tmp 27, .tmp 31]) rfl ?_); at_builtin; refine Kd.R_append (Kd.int .i64) (w0 := w) w.heap.size rfl (.tmp 27) (.tmp 31) 25 3 (.int .i64 0) 8 rfl Try.underlying25 info3 rfl (by decide) (by omega) pv place (zs.length : Int) [.int .i64 (zs.length : Int)] (fun _ => True) (fun _ => False) rfl rfl rfl (fun _ hk => hk.elim) (fun _ _ => trivial) HO.out.hp HO.out.hb HO.out.hb.size AL.out ?_; intro pv1 w3 hs hb hg hat; have HO3 := Aside0.mk (HO.out.add hg hb hs hat); clear hs hb hg hat)
      clear hz7 AL
      obtain ⟨gm, hgm, hcm⟩ := spec_Compact.headB HO3.out.hm i hin
      subst hgm
      obtain ⟨m, hm⟩ : ∃ m, m = marks.getD i false := ⟨_, rfl⟩
      rw [← hm] at hcm
      have hgo := HG.out
      rw [List.drop_eq_getElem_cons hin, show marks[i] = m by rw [hm, List.getD_eq_getElem?_getD, List.getElem?_eq_getElem hin]; rfl, spec_Compact.go.eq_2] at hgo
      clear hm HG
      have p1 : (0 : Int) ≤ (i : Int) := Int.natCast_nonneg i
      have p2 : (i : Int) < (marks.length : Int) := Int.ofNat_lt.2 hin
      have hw2 := spec_Compact.wr2 i marks.length hin HML.out
      have hzn : zs.length = ns.length := HO3.out.rel.1
      rw [hzn] at HO3
      clear hzn
      cases m with
      | false =>
        rw [if_neg (by decide)] at hgo
        have HG := Aside0.mk hgo
        clear hgo
        go_wp2
        go_roundg (go - 1)
        case measure => have := HI.out; omega
        case rel => exact ⟨i + 1, _, _, _, _, by first | rfl | (rw [hw2]; done), ⟨by have := HI.out; simp only [List.length_append, List.length_cons, List.length_nil]; omega⟩, HG, HO3⟩
      | true =>
        rw [if_pos rfl] at hgo
        obtain ⟨⟨hx1, hx2⟩, hgo⟩ := Option.ite_none_right_eq_some.1 hgo
        obtain ⟨ks, hks, hgo⟩ := Option.bind_eq_some_iff.1 hgo
        obtain ⟨pl, hpe⟩ : ∃ pl, pl = place ++ [(ns.length : Int)] := ⟨_, rfl⟩
        have PL : Aside0 (pl.length = i + 1) := ⟨by rw [hpe, List.length_append, HI.out.2.2.1]; rfl⟩
        rw [← hpe] at HO3 hgo hks
        clear hpe
        obtain ⟨Ap, cp, ep⟩ := Kd.R_slice HO3.out.hp
        subst ep
        have HG := Aside0.mk hgo
        have HKS := Aside0.mk (impl_Compact.mp_get _ _ _ hks)
        have p3 : (i : Int) < (l0.length : Int) := Int.ofNat_lt.2 hx1
        obtain ⟨ad, B1, d1, B2, d2, B3, d3, e0, hy0, hy1, hy2, hy3, hl1, hi1, hl2, hi2, hl3, hi3⟩ := at_T58 HR0.out (i : Int) p1 p3
        cases e0
        rw [Int.toNat_natCast] at hy0 hy1 hy2 hy3
        obtain ⟨x, hx⟩ : ∃ x, x = rd_T58 l0 (i : Int) := ⟨_, rfl⟩
        rw [← hx] at hy0 hy1 hy2 hy3 hl1 hi1 hl2 hi2 hl3 hi3 HKS HG hx2
        obtain ⟨xb, xk, xv, xd⟩ := x
        dsimp only at hy0 hy1 hy2 hy3 hl1 hi1 hl2 hi2 hl3 hi3 HKS HG hx2
        obtain ⟨n3, hn3⟩ : ∃ n3, n3 = xd.length := ⟨_, rfl⟩
        rw [← hn3] at hy3 hi3 HKS hx2
        have HN3 := Aside0.mk hn3
        have HX2 := Aside0.mk hx2
        clear hn3 hx2
        replace hy0 := (HO3.out.hb.cell (World.block_lt_of_cell? w _ hy0)).trans hy0
        replace hy1 := (HO3.out.hb.cell (World.block_lt_of_cell? w _ hy1)).trans hy1
        replace hy2 := (HO3.out.hb.cell (World.block_lt_of_cell? w _ hy2)).trans hy2
        replace hy3 := (HO3.out.hb.cell (World.block_lt_of_cell? w _ hy3)).trans hy3
        have HI3 := Aside0.mk hi3
        have HREL : Aside0 (∀ v3 : List Int, spec_Compact.Rel w (xb, [.slice B1 xk.length d1], [.slice B2 xv.length d2], v3) ⟨xb, xk, xv, v3⟩) := ⟨fun v3 => ⟨rfl, ⟨B1, d1, rfl, hl1, hi1⟩, ⟨B2, d2, rfl, hl2, hi2⟩, rfl⟩⟩
        have hz2 : w3.cell? ⟨gb2, 0, none⟩ = some (.slice (some ad) l0.length c0) := (blk_cell HO3.out.b2 0).trans rfl
        clear hgo hks hx hl1 hi1 hl2 hi2 hl3 hi3
        go_upto_region 11 with (fail)
        have KQ := Aside0.mk (spec_Compact.Kq.start w3 #[.bool xb, .slice B1 xk.length d1, .slice B2 xv.length d2, .slice B3 n3 d3])
        have GE : Aside0 (w3.heap.size ≤ w3.heap.size) := ⟨Nat.le_refl _⟩
        clear hy0 hy1 hy2 hy3 hz2 hcm p3
        generalize (w3.alloc (.cells #[.bool xb, .slice B1 xk.length d1, .slice B2 xv.length d2, .slice B3 n3 d3] 58)).alloc (.cells #[] 3) = W4 at KQ ⊢
        generalize Value.slice (some ⟨w3.heap.size + 1, 0, none⟩) 0 0 = kv0 at KQ ⊢
        obtain ⟨gb10, hgb10⟩ : ∃ gb10, gb10 = w3.heap.size := ⟨_, rfl⟩
        have KQ' : Aside0 (spec_Compact.Kq w3 gb10 #[.bool xb, .slice B1 xk.length d1, .slice B2 xv.length d2, .slice B3 n3 d3] W4 kv0 []) := ⟨by rw [hgb10]; exact KQ.out⟩
        rw [show (Value.pointer (some ⟨w3.heap.size, 0, none⟩)) = .pointer (some ⟨gb10, 0, none⟩) by rw [hgb10]]
        have GE : Aside0 (w3.heap.size ≤ gb10) := ⟨Nat.le_of_eq hgb10.symm⟩
        clear KQ hgb10
        have hz3 : W4.cell? ⟨gb10, 3, none⟩ = some (.slice B3 n3 d3) := (blk_cell KQ'.out.b 3).trans rfl
        go_wp2
        go_loopg [11, 12] n3 (fun gg s11 s12 wr => ∃ (j : Nat), s12 = .int .i64 (j : Int) ∧ Aside0 (j ≤ n3 ∧ n3 ≤ j + gg) ∧ Aside0 (spec_Compact.Kq w3 gb10 #[.bool xb, .slice B1 xk.length d1, .slice B2 xv.length d2, .slice B3 n3 d3] wr s11 (ks.take j)))
        case atStart => exact ⟨0, rfl, ⟨by omega⟩, by simpa using KQ'⟩
        case round =>
          clear KQ' hz3
          obtain ⟨j, rfl, HJ, KQ⟩ := hrel
          have hz3 : wr.cell? ⟨gb10, 3, none⟩ = some (.slice B3 n3 d3) := (blk_cell KQ.out.b 3).trans rfl
          by_cases hjn : j < n3
          · have cj : decide ((j : Int) < (n3 : Int)) = true := decide_eq_true (Int.ofNat_lt.2 hjn)
            have q1 : (0 : Int) ≤ (j : Int) := Int.natCast_nonneg j
            have q2 : (j : Int) < (n3 : Int) := Int.ofNat_lt.2 hjn
            obtain ⟨ar, har, hcr⟩ := Kd.at_int HI3.out (j : Int) q1 q2
            subst har
            obtain ⟨y, hy⟩ : ∃ y, y = xd.getD j 0 := ⟨_, rfl⟩
            rw [show rd xd (j : Int) = y by rw [hy]; rfl, Int.toNat_natCast] at hcr
            replace hcr := ((HO3.out.below KQ.out.d).hb.cell (World.block_lt_of_cell? w _ hcr)).trans hcr
            have hpl := HKS.out.2 j hjn 0 0
            rw [← hy] at hpl
            obtain ⟨⟨hy1, hy2⟩, hpl⟩ := Option.ite_none_right_eq_some.1 hpl
            obtain ⟨kj, hkj⟩ : ∃ kj, kj = ks.getD j 0 := ⟨_, rfl⟩
            rw [← hkj] at hpl
            have hpp := (HO3.out.below KQ.out.d).hp
            obtain ⟨gp, hgp, hcp, _⟩ := impl_Compact.head hpp y.toNat ((Int.toNat_lt hy1).2 hy2)
            rw [Option.some.inj hpl] at hcp
            subst hgp
            have hw3 := spec_Compact.wr2 j n3 hjn HX2.out
            have AL : Aside0 (((ks.take j).length + 1) * 8 ≤ 140737488355328) := spec_Compact.cap8 ks j n3 hjn HX2.out
            have TM : Aside0 (ks.take j ++ [kj] = ks.take (j + 1)) := ⟨by rw [hkj]; exact spec_Compact.take_more ks j (HKS.out.1 ▸ hjn)⟩
            clear hy hpl hkj hpp
            go_wp2_with ((with_reducible refine gate_builtin (b := .append) (xs := #[.tmp 51, .tmp 60]) rfl ?_); at_builtin; refine Kd.R_append (Kd.int .i64) (w0 := w3) w3.heap.size rfl (.tmp 51) (.tmp 60) 25 3 (.int .i64 0) 8 rfl Try.underlying25 info3 rfl (by decide) (by omega) u11 (ks.take j) kj [.int .i64 kj] (fun _ => True) (fun _ => False) rfl rfl rfl (fun _ hk => hk.elim) (fun _ _ => trivial) KQ.out.r KQ.out.d KQ.out.d.size AL.out ?_; intro kv w6 hs hb hg hat; rw [TM.out] at hs; have KQ6 := Aside0.mk (KQ.out.more hg hs hb); clear hs hb hg hat)
            go_roundg (gk - 1)
            case measure => have := HJ.out; omega
            case rel => exact ⟨j + 1, by first | rfl | (rw [hw3]; done), ⟨by have := HJ.out; omega⟩, KQ6⟩
          · have cj : decide ((j : Int) < (n3 : Int)) = false := decide_eq_false (fun h => hjn (Int.ofNat_lt.1 h))
            have hni : j = n3 := spec_Compact.eq_end hjn HJ.out.1
            subst hni
            have hall : ks.take j = ks := List.take_of_length_le (by rw [HKS.out.1]; exact Nat.le_refl _)
            rw [hall] at KQ
            clear hall hjn HKS HI3
            obtain ⟨Ak, ck, ek⟩ := Kd.R_slice KQ.out.r
            generalize List.length _ = nk at ek
            obtain ⟨u11', hu11⟩ : ∃ u, u = u11 := ⟨_, rfl⟩
            subst hu11
            subst ek
            have hf3 := blk_frozen KQ.out.b 3
            have SQ := Aside0.mk (HO3.out.box GE.out KQ.out.d 3 (.slice Ak nk ck))
            have K5 : Aside0 (spec_Compact.Kq w3 gb10 #[.bool xb, .slice B1 xk.length d1, .slice B2 xv.length d2, .slice Ak nk ck] (wr.setCell ⟨gb10, 3, none⟩ (.slice Ak nk ck)) (.slice Ak nk ck) ks) := ⟨⟨blk_put KQ.out.b 3 _ rfl, Kd.R_set KQ.out.r KQ.out.b (by decide) 3 _, KQ.out.d.setCell (p := ⟨gb10, 3, none⟩) GE.out _⟩⟩
            go_upto_region 16 with (fail)
            clear hf3 hz3
            generalize wr.setCell ⟨gb10, 3, none⟩ (.slice Ak nk ck) = W5 at SQ K5 ⊢
            have hz7 : W5.cell? ⟨gb7, 0, none⟩ = some (.slice Av ns.length cv) := (blk_cell SQ.out.b7 0).trans rfl
            have hy0 : W5.cell? ⟨gb10, 0, none⟩ = some (.bool xb) := (blk_cell K5.out.b 0).trans rfl
            have hy1 : W5.cell? ⟨gb10, 1, none⟩ = some (.slice B1 xk.length d1) := (blk_cell K5.out.b 1).trans rfl
            have hy2 : W5.cell? ⟨gb10, 2, none⟩ = some (.slice B2 xv.length d2) := (blk_cell K5.out.b 2).trans rfl
            have hy3 : W5.cell? ⟨gb10, 3, none⟩ = some (.slice Ak nk ck) := (blk_cell K5.out.b 3).trans rfl
            have AP := Aside0.mk (spec_Compact.kz_mk W5 w.heap.size (fun k_ => w3.heap.size ≤ k_ ∧ k_ < W5.heap.size) xb B1 xk.length d1 B2 xv.length d2 (.slice Ak nk ck) ks (Kd.R_lower (Kd.R_mono (Kd.R_bound K5.out.r) (fun k_ hk => ⟨hk.2.1, hk.2.2.1⟩)) HO3.out.hb.size))
            have AQ : Aside0 (∀ k_, (w3.heap.size ≤ k_ ∧ k_ < W5.heap.size) → some k_ ≠ (Value.slice Ap pl.length cp).ownBlock ∧ some k_ ≠ (Value.slice Av ns.length cv).ownBlock) := ⟨fun k_ hk => ⟨fun e => Nat.lt_irrefl _ (Nat.lt_of_lt_of_le (Kd.R_lt HO3.out.hp k_ e.symm) hk.1), fun e => Nat.lt_irrefl _ (Nat.lt_of_lt_of_le (Kd.S_lt HO3.out.ho k_ e.symm) hk.1)⟩⟩
            have AF : Aside0 (∀ k_, W5.heap.size ≤ k_ → some k_ ≠ (Value.slice Ap pl.length cp).ownBlock) := ⟨fun k_ hk e => Nat.lt_irrefl _ (Nat.lt_of_lt_of_le (Kd.R_lt HO3.out.hp k_ e.symm) (Nat.le_trans K5.out.d.size hk))⟩
            have AO : Aside0 (Kd.S spec_Compact.kz 58 W5 w.heap.size (fun k_ => some k_ ≠ (Value.slice Ap pl.length cp).ownBlock ∧ ¬ (w3.heap.size ≤ k_ ∧ k_ < W5.heap.size)) (.slice Av ns.length cv) zs) := ⟨Kd.S_mono (Kd.S_below (Kd.S_bound HO3.out.ho) K5.out.d) (fun k_ hk => ⟨hk.1, fun h => Nat.lt_irrefl _ (Nat.lt_of_lt_of_le hk.2.2.1 h.1)⟩)⟩
            have AL : Aside0 ((zs.length + 1) * 80 ≤ 140737488355328) := ⟨by rw [SQ.out.rel.1]; exact spec_Compact.cap80 ns.length marks.length i HI.out.2.2.2 hin HML.out⟩
            have RN := Aside0.mk (SQ.out.rel.snoc (HREL.out ks))
            clear HO3 KQ K5 HREL
            go_wp2_with ((with_reducible refine gate_builtin (b := .append) (xs := #[.tmp 65, .tmp 67]) rfl ?_); at_builtin; refine Kd.S_append spec_Compact.kz (w0 := w) w.heap.size rfl (.tmp 65) (.tmp 67) 29 58 (.agg #[(.bool false), (.slice none 0 0), (.slice none 0 0), (.slice none 0 0)]) 80 rfl Try.underlying29 info58 rfl (by decide) (by omega) (.slice Av ns.length cv) zs ((xb, [.slice B1 xk.length d1], [.slice B2 xv.length d2], ks) : spec_Compact.Z) [.bool xb, .slice B1 xk.length d1, .slice B2 xv.length d2, .slice Ak nk ck] (fun k_ => some k_ ≠ (Value.slice Ap pl.length cp).ownBlock) (fun k_ => w3.heap.size ≤ k_ ∧ k_ < W5.heap.size) rfl rfl AP.out AQ.out AF.out AO.out SQ.out.hb SQ.out.hb.size AL.out ?_; intro v6 w6 hs hb hg hat; obtain ⟨A6, c6, e6⟩ := Kd.S_slice hs; generalize List.length _ = n6 at e6; subst e6; have S6 := Aside0.mk (SQ.out.more hg hb hs RN.out); have B7 := Aside0.mk (blk_grown SQ.out.b7 hg (Kd.S_ne SQ.out.ho SQ.out.b7 (by decide))); clear hs hb hg hat; have hz9 := (blk_cell B7.out 0).trans (rfl : _ = some (Value.slice Av ns.length cv)); have hf9 := blk_frozen B7.out 0)
            go_roundg (go - 1)
            case measure => have := HI.out; exact spec_Compact.meas this.2.1 hin
            case rel => exact ⟨i + 1, _, _, _, _, by first | rfl | (rw [hw2]; done), spec_Compact.next HI.out hin PL.out rfl, HG, S6⟩
    · have cc : decide ((i : Int) < (marks.length : Int)) = false := decide_eq_false (by omega)
      have hni : i = marks.length := by have := HI.out.1; omega
      subst hni
      have hfin := HG.out
      rw [List.drop_length, spec_Compact.go.eq_1] at hfin
      have hf_ := Option.some.inj hfin
      injection hf_ with ef1 ef2
      subst ef1 ef2
      clear hfin HG HI hin
      go_upto_region 18 with (fail)
      have IS : Aside0 ((Kd.int .i64).R 3 (wo.alloc (.cells #[] 3)) wo.heap.size (fun _ => True) (.slice (some ⟨wo.heap.size, 0, none⟩) 0 0) [] ∧ Below wo.heap.size wo (wo.alloc (.cells #[] 3))) := ⟨spec_Compact.empty _ 3 _ _ _ _ (blk_new _ _) (Nat.le_refl _) trivial, below_alloc (Below.refl _ _) _⟩
      generalize wo.alloc (.cells #[] 3) = W4 at IS ⊢
      generalize Value.slice (some ⟨wo.heap.size, 0, none⟩) 0 0 = iv0 at IS ⊢
      obtain ⟨Ap, cp, ep⟩ := Kd.R_slice HO.out.hp
      subst ep
      go_wp2
      go_loopg [13, 14] l1.length (fun gg s13 s14 wr => ∃ (j : Nat), s14 = .int .i64 (j : Int) ∧ Aside0 (j ≤ l1.length ∧ l1.length ≤ j + gg) ∧ Aside0 ((Kd.int .i64).R 3 wr wo.heap.size (fun _ => True) s13 (ids'.take j) ∧ Below wo.heap.size wo wr))
      case atStart => exact ⟨0, rfl, ⟨by omega⟩, by simpa using IS⟩
      case round =>
        clear IS
        obtain ⟨j, rfl, HJ, KQ⟩ := hrel
        by_cases hjn : j < l1.length
        · have cj : decide ((j : Int) < (l1.length : Int)) = true := decide_eq_true (Int.ofNat_lt.2 hjn)
          have q1 : (0 : Int) ≤ (j : Int) := Int.natCast_nonneg j
          have q2 : (j : Int) < (l1.length : Int) := Int.ofNat_lt.2 hjn
          obtain ⟨ar, har, hcr⟩ := Kd.at_int HR1.out (j : Int) q1 q2
          subst har
          obtain ⟨y, hy⟩ : ∃ y, y = l1.getD j 0 := ⟨_, rfl⟩
          rw [show rd l1 (j : Int) = y by rw [hy]; rfl, Int.toNat_natCast] at hcr
          replace hcr := ((HO.out.below KQ.out.2).hb.cell (World.block_lt_of_cell? w _ hcr)).trans hcr
          have hpl := HIDS.out.2 j hjn 0 0
          rw [← hy] at hpl
          obtain ⟨kj, hkj⟩ : ∃ kj, kj = ids'.getD j 0 := ⟨_, rfl⟩
          rw [← hkj] at hpl
          have hw3 := spec_Compact.wr2 j l1.length hjn HRL.out
          have AL := spec_Compact.cap8 ids' j l1.length hjn HRL.out
          have TM : Aside0 (ids'.take j ++ [kj] = ids'.take (j + 1)) := ⟨by rw [hkj]; exact spec_Compact.take_more ids' j (HIDS.out.1.symm ▸ hjn)⟩
          clear hy hkj
          by_cases hy0 : y < 0
          · unfold spec_Compact.id at hpl
            rw [if_pos hy0] at hpl
            have ek : kj = -1 := (Option.some.inj hpl).symm
            subst ek
            have cy : decide (y < 0) = true := decide_eq_true hy0
            clear hpl hy0
            go_wp2_with ((with_reducible refine gate_builtin (b := .append) (xs := #[.tmp 82, .tmp 83]) rfl ?_); at_builtin; refine Kd.R_append (Kd.int .i64) (w0 := wo) wo.heap.size rfl (.tmp 82) (.tmp 83) 25 3 (.int .i64 0) 8 rfl Try.underlying25 info3 rfl (by decide) (by omega) u13 (ids'.take j) (-1) [.int .i64 (-1)] (fun _ => True) (fun _ => False) rfl rfl rfl (fun _ hk => hk.elim) (fun _ _ => trivial) KQ.out.1 KQ.out.2 KQ.out.2.size AL.out ?_; intro kv w6 hs hb hg hat; rw [TM.out] at hs; have KQ6 := Aside0.mk (And.intro hs hb); clear hs hb hg hat)
            go_roundg (gk - 1)
            case measure => exact spec_Compact.meas HJ.out.2 hjn
            case rel => exact ⟨j + 1, by first | rfl | (rw [hw3]; done), ⟨by have := HJ.out; omega⟩, KQ6⟩
          · unfold spec_Compact.id at hpl
            rw [if_neg hy0] at hpl
            obtain ⟨⟨hy1, hy2⟩, hpl⟩ := Option.ite_none_right_eq_some.1 hpl
            have hpp := (HO.out.below KQ.out.2).hp
            obtain ⟨gp, hgp, hcp, _⟩ := impl_Compact.head hpp y.toNat ((Int.toNat_lt hy1).2 hy2)
            rw [Option.some.inj hpl] at hcp
            subst hgp
            have cy : decide (y < 0) = false := decide_eq_false hy0
            clear hpl hpp hy0
            go_wp2_with ((with_reducible refine gate_builtin (b := .append) (xs := #[.tmp 85, .tmp 93]) rfl ?_); at_builtin; refine Kd.R_append (Kd.int .i64) (w0 := wo) wo.heap.size rfl (.tmp 85) (.tmp 93) 25 3 (.int .i64 0) 8 rfl Try.underlying25 info3 rfl (by decide) (by omega) u13 (ids'.take j) kj [.int .i64 kj] (fun _ => True) (fun _ => False) rfl rfl rfl (fun _ hk => hk.elim) (fun _ _ => trivial) KQ.out.1 KQ.out.2 KQ.out.2.size AL.out ?_; intro kv w6 hs hb hg hat; rw [TM.out] at hs; have KQ6 := Aside0.mk (And.intro hs hb); clear hs hb hg hat)
            go_roundg (gk - 1)
            case measure => exact spec_Compact.meas HJ.out.2 hjn
            case rel => exact ⟨j + 1, by first | rfl | (rw [hw3]; done), ⟨by have := HJ.out; omega⟩, KQ6⟩
        · have cj : decide ((j : Int) < (l1.length : Int)) = false := decide_eq_false (fun h => hjn (Int.ofNat_lt.1 h))
          have hni : j = l1.length := spec_Compact.eq_end hjn HJ.out.1
          have hall : ids'.take j = ids' := List.take_of_length_le (by rw [hni, HIDS.out.1]; exact Nat.le_refl _)
          rw [hall] at KQ
          have OC := Aside0.mk (HO.out.below KQ.out.2)
          have OW := Aside0.mk HO.out.hb.size
          obtain ⟨Av, cv, ev⟩ := Kd.S_slice OC.out.ho
          obtain ⟨A, c, e9, hl9, _⟩ := spec_Compact.reads OC.out.hb OC.out.ho OC.out.rel
          subst e9
          have HL9 := Aside0.mk hl9
          have hz7 := (blk_cell OC.out.b7 0).trans (rfl : _ = some (Value.slice A ns.length c))
          have hz4 := (blk_cell OC.out.b4 0).trans (rfl : _ = some (Value.slice none 0 0))
          have hf4 := blk_frozen OC.out.b4 0
          clear ev HO hall hl9 hjn
          go_wp2
          refine bodyPost_ret (results_ct rfl _ _ gb4 31 #[.slice A ns.length c] (0, 0) _ rfl (blk_put (cs := #[.slice none 0 0]) OC.out.b4 0 _ rfl) Try.underlying31 rfl (by kernel_rfl)) rfl ⟨A, c, _, rfl, HL9.out, ?_, ?_, ?_⟩
          · obtain ⟨A', c', e', _, hC⟩ := spec_Compact.reads (OC.out.hb.setCell (p := ⟨gb4, 0, none⟩) OC.out.g4 (.slice A ns.length c)) (Kd.S_set OC.out.ho OC.out.b4 (by decide) 0 _) OC.out.rel
            injection e' with e1 e2 e3
            subst e1
            exact hC
          · exact Kd.R_lower (Kd.R_set KQ.out.1 OC.out.b4 (by decide) 0 _) OW.out
          · exact OC.out.hb.setCell (p := ⟨gb4, 0, none⟩) OC.out.g4 _
set_option maxHeartbeats 4000000 in
theorem spec_Compact.calls (k : Nat) (A0 : Option Addr) (c0 : Nat) (l0 : List S58) (A1 : Option Addr) (c1 : Nat) (l1 : List Int) (r1 : List S58) (r2 : List Int) (r3 : Int) (w : World) (hr0 : Kd.C k58 w A0 l0.length l0) (hc0 : l0.length ≤ c0) (hr1 : Kd.C (Kd.int .i64) w A1 l1.length l1) (hc1 : l1.length ≤ c1) (h : spec_Compact.f k l0 l1 = some (r1, r2, r3)) :
    Calls Try.prog 15 #[.agg #[.slice A0 l0.length c0], .slice A1 l1.length c1] w fun e w' => ∃ v0_ v1_ : Value, e = .returned (.tuple #[.agg #[v0_], v1_, .int .i64 r3]) ∧ Kd.S k58 58 w' w.heap.size (fun _ => True) v0_ r1 ∧ Kd.R (Kd.int .i64) 3 w' w.heap.size (fun _ => True) v1_ r2 ∧ Below w.heap.size w w' := by
  have hu31 := Try.underlying31
  have HR0 := Aside0.mk hr0
  have HC0 := Aside0.mk hc0
  have HR1 := Aside0.mk hr1
  have HC1 := Aside0.mk hc1
  have D1 : Aside0 (Below w.heap.size w ((w.alloc (.cells #[.slice A0 l0.length c0] 31)).alloc (.cells #[.slice none 0 0] 31))) := ⟨below_alloc (below_alloc (Below.refl _ _) _) _⟩
  have Y2 : Aside0 (((w.alloc (.cells #[.slice A0 l0.length c0] 31)).alloc (.cells #[.slice none 0 0] 31)).heap[w.heap.size]? = some (.cells #[.slice A0 l0.length c0] 31 (0, 0))) := ⟨blk_alloc (blk_new _ _) _⟩
  have Y4 : Aside0 (((w.alloc (.cells #[.slice A0 l0.length c0] 31)).alloc (.cells #[.slice none 0 0] 31)).heap[w.heap.size + 1]? = some (.cells #[.slice none 0 0] 31 (0, 0))) := ⟨by
    have h := blk_new (w.alloc (.cells #[.slice A0 l0.length c0] 31)) (.cells #[.slice none 0 0] 31)
    rw [World.size_alloc] at h
    exact h⟩
  clear hr0 hc0 hr1 hc1
  go_enter Try.func15, Try.ntmps15
  go_upto_region 1 with (fail)
  generalize (w.alloc (.cells #[.slice A0 l0.length c0] 31)).alloc (.cells #[.slice none 0 0] 31) = W1 at D1 Y2 Y4 ⊢
  obtain ⟨gb2, hgb2⟩ : ∃ gb2, gb2 = w.heap.size := ⟨_, rfl⟩
  obtain ⟨gb4, hgb4⟩ : ∃ gb4, gb4 = w.heap.size + 1 := ⟨_, rfl⟩
  rw [← hgb4] at Y4 ⊢
  rw [← hgb2] at Y2
  have HGE : Aside0 (w.heap.size ≤ gb4) := ⟨by omega⟩
  rw [show (Value.pointer (some ⟨w.heap.size, 0, none⟩)) = .pointer (some ⟨gb2, 0, none⟩) by rw [hgb2]]
  clear hgb2 hgb4
  unfold spec_Compact.f at h
  have fin : ∀ (W : World) (r : Int), Below w.heap.size w W → W.heap[gb4]? = some (.cells #[.slice none 0 0] 31 (0, 0)) → Kd.S k58 58 ((W.alloc (.cells #[] 3)).setCell ⟨gb4, 0, none⟩ (.slice none 0 0)) w.heap.size (fun _ => True) (.slice none 0 0) [] ∧ (Kd.int .i64).R 3 ((W.alloc (.cells #[] 3)).setCell ⟨gb4, 0, none⟩ (.slice none 0 0)) w.heap.size (fun _ => True) (.slice (some ⟨W.heap.size, 0, none⟩) 0 0) [] ∧ Below w.heap.size w ((W.alloc (.cells #[] 3)).setCell ⟨gb4, 0, none⟩ (.slice none 0 0)) := fun W r hB h4 =>
    ⟨Kd.S_nil _ _ _ _ _, Kd.R_set (spec_Compact.empty _ 3 _ _ _ _ (blk_new _ _) hB.size trivial) (blk_alloc h4 _) (by decide) 0 _, (below_alloc hB _).setCell (p := ⟨gb4, 0, none⟩) HGE.out _⟩
  have FIN := Aside0.mk fin
  clear fin
  by_cases c1' : (4096 : Int) < (l1.length : Int)
  · rw [if_pos c1'] at h
    have h_ := Option.some.inj h
    injection h_ with e1 e2
    injection e2 with e2 e3
    subst e1 e2 e3
    have cc : decide ((l1.length : Int) > 4096) = true := decide_eq_true c1'
    have cc2 : decide ((4096 : Int) < (l1.length : Int)) = true := decide_eq_true c1'
    have X4 := Aside0.mk (blk_alloc Y4.out (.cells #[] 3))
    have hz4 := (blk_cell X4.out 0).trans (rfl : _ = some (Value.slice none 0 0))
    have hf4 := blk_frozen X4.out 0
    clear h c1'
    go_wp2
    refine bodyPost_ret (results_ctt rfl _ _ gb4 31 #[.slice none 0 0] (0, 0) _ rfl (blk_put (cs := #[.slice none 0 0]) X4.out 0 _ rfl) Try.underlying31 rfl (by kernel_rfl)) rfl ⟨_, _, rfl, (FIN.out W1 0 D1.out Y4.out).1, (FIN.out W1 0 D1.out Y4.out).2.1, (FIN.out W1 0 D1.out Y4.out).2.2⟩
  · rw [if_neg c1'] at h
    obtain ⟨t, ht, h1⟩ := Option.bind_eq_some_iff.1 h
    have HT := Aside0.mk ht
    have cc : decide ((l1.length : Int) > 4096) = false := decide_eq_false c1'
    have cc2 : decide ((4096 : Int) < (l1.length : Int)) = false := decide_eq_false c1'
    have hz2 : W1.cell? ⟨gb2, 0, none⟩ = some (.slice A0 l0.length c0) := (blk_cell Y2.out 0).trans rfl
    clear h c1' ht
    go_upto_region 4 with (go_at_call 19; (with_reducible refine (spec_l05Roots.calls k A0 c0 l0 A1 c1 l1 t _ (Kd.C_below HR0.out D1.out) HC0.out (Kd.C_below HR1.out D1.out) HC1.out HT.out).mono ?_); rintro e w2 ⟨rfl, hb⟩; have D2 := Aside0.mk (below_step D1.out hb); have Z2 := Aside0.mk (blk_below Y2.out hb); have Z4 := Aside0.mk (blk_below Y4.out hb); clear hb)
    clear hz2 Y2 Y4 D1 HT
    by_cases c2 : t = 0
    · rw [if_pos c2] at h1
      obtain ⟨⟨ns, ids⟩, hcf, h2⟩ := Option.bind_eq_some_iff.1 h1
      obtain ⟨o, ho, h3⟩ := Option.bind_eq_some_iff.1 h2
      have h_ := Option.some.inj h3
      injection h_ with e1 e2
      injection e2 with e2 e3
      dsimp only at e1 e2 ho
      subst e1 e2 e3
      have HCF := Aside0.mk hcf
      have HO := Aside0.mk ho
      have cd : (t != (0 : Int)) = false := by rw [c2]; rfl
      have hz2 : w2.cell? ⟨gb2, 0, none⟩ = some (.slice A0 l0.length c0) := (blk_cell Z2.out 0).trans rfl
      clear h1 h2 h3 hcf ho c2
      go_wp2_with (first
        | (go_at_call 26; (with_reducible refine (spec_Compact.cmp k A0 c0 l0 A1 c1 l1 ns ids _ (Kd.C_below HR0.out D2.out) HC0.out (Kd.C_below HR1.out D2.out) HC1.out HCF.out).mono ?_); rintro e w3 ⟨A, c, v1, rfl, hl, hC, hr, hb⟩; have HA := Aside0.mk (And.intro hl (Kd.C_below hC (below_alloc (Below.refl _ _) (.cells #[.slice A ns.length c] 31)))); have HI := Aside0.mk (Kd.R_alloc (Kd.R_lower hr D2.out.size) (.cells #[.slice A ns.length c] 31)); have D3 := Aside0.mk (below_alloc (below_step D2.out hb) (.cells #[.slice A ns.length c] 31)); have V4 := Aside0.mk (blk_alloc (blk_below Z4.out hb) (.cells #[.slice A ns.length c] 31)); clear hl hC hr hb)
        | (go_at_call 27; (with_reducible refine (spec_l05Own.calls k A c ns o _ HA.out.2 HA.out.1 HO.out).mono ?_); rintro e w5 ⟨v0, rfl, hs, hb⟩; obtain ⟨Av, cv, ev⟩ := Kd.S_slice hs; generalize List.length _ = nv at ev; subst ev; have HS := Aside0.mk (Kd.S_lower hs D3.out.size); have HI5 := Aside0.mk (Kd.R_below HI.out hb); have D5 := Aside0.mk (below_step D3.out hb); have V5 := Aside0.mk (blk_below V4.out hb); clear hs hb; have hz5 := (blk_cell V5.out 0).trans (rfl : _ = some (Value.slice none 0 0)); have hf5 := blk_frozen V5.out 0))
      refine bodyPost_ret (results_ctt rfl _ _ gb4 31 #[.slice Av nv cv] (0, 0) _ rfl (blk_put (cs := #[.slice none 0 0]) V5.out 0 _ rfl) Try.underlying31 rfl (by kernel_rfl)) rfl ⟨_, _, rfl, ?_, ?_, ?_⟩
      · exact Kd.S_set HS.out V5.out (by decide) 0 _
      · exact Kd.R_set HI5.out V5.out (by decide) 0 _
      · exact D5.out.setCell (p := ⟨gb4, 0, none⟩) HGE.out _
    · rw [if_neg c2] at h1
      have h_ := Option.some.inj h1
      injection h_ with e1 e2
      injection e2 with e2 e3
      subst e1 e2 e3
      have cd : (t != (0 : Int)) = true := by simpa using c2
      have X4 := Aside0.mk (blk_alloc Z4.out (.cells #[] 3))
      have hz4 := (blk_cell X4.out 0).trans (rfl : _ = some (Value.slice none 0 0))
      have hf4 := blk_frozen X4.out 0
      clear c2 h1
      go_wp2
      refine bodyPost_ret (results_ctt rfl _ _ gb4 31 #[.slice none 0 0] (0, 0) _ rfl (blk_put (cs := #[.slice none 0 0]) X4.out 0 _ rfl) Try.underlying31 rfl (by kernel_rfl)) rfl ⟨_, _, rfl, (FIN.out w2 0 D2.out Z4.out).1, (FIN.out w2 0 D2.out Z4.out).2.1, (FIN.out w2 0 D2.out Z4.out).2.2⟩

end Go.Proofs.Ytcefdpjlpjgaiaa.XK
