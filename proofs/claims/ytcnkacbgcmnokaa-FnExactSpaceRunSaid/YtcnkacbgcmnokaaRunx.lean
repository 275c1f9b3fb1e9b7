/- Several texts of the session in one. -/
import Derived.Test.YtcnkacbgcmnokaaActfR
import Derived.Test.YtcnkacbgcmnokaaXR6
import Derived.Test.YtcnkacbgcmnokaaOwnlR
import Derived.Test.YtcnkacbgcmnokaaRoomR
import Derived.Test.YtcnkacbgcmnokaaFramR
import Derived.Test.YtcnkacbgcmnokaaXR0
/- The program's SpaceRun: a walk. -/
namespace Go.Proofs.Ytcnkacbgcmnokaa.XR.Irun
open Go Go.RowKit Go.Proofs.YtcnkacbgcmnokaaW.PrintWords Go.Proofs.YtcnkacbgcmnokaaW.PrintLast Go.Proofs.YtcnkacbgcmnokaaW.PrintMore Go.Proofs.Ytcnkacbgcmnokaa.XR Go.Proofs.Ytcnkacbgcmnokaa.XR.Room Go.Proofs.Ytcnkacbgcmnokaa.XR.Fram
open Go.Proofs.Ytcnkacbgcmnokaa.XR.Act (Out Done)
set_option linter.unusedVariables false
set_option linter.unusedSimpArgs false
/-- Acts, one behind the other: what they leave, and the replies. -/
def steps (F : Out → S37 → Option Out) : List S37 → Out → Option (Out × List S33)
  | [], o => some (o, [])
  | a :: l, o => (F o a).bind fun r => (steps F l r).bind fun z => some (z.1, ⟨r.code, r.pages⟩ :: z.2)
/-- What comes back. -/
structure Res where
  T : Int
  o : Out
  rs : List S33
  err : Int
/-- Both sides' SpaceRun, by what makes a space and what an act does. -/
def run (new : Int → Option (Int × Int × List Int × List S74 × List Int × Int)) (F : Int → Out → S37 → Option Out) (total : Int) (l : List S37) : Option Res :=
  if (4096 : Int) < (l.length : Int) then some ⟨0, ⟨0, [], [], [], 0, []⟩, [], 2⟩ else (new total).bind fun s =>
    if s.2.2.2.2.2 = 0 then (if (200 : Int) < (l.length : Int) then some ⟨0, ⟨0, [], [], [], 0, []⟩, [], 6⟩ else (steps (F s.1) l ⟨s.2.1, s.2.2.1, s.2.2.2.1, s.2.2.2.2.1, 0, []⟩).bind fun z => some ⟨s.1, z.1, z.2, 0⟩)
    else some ⟨0, ⟨0, [], [], [], 0, []⟩, [], s.2.2.2.2.2⟩
theorem info33 : (Try.prog.info? 33).map (fun i => (i.zero, i.size, i.bytes)) = some (some (.agg #[(.int .i64 0), (.slice none 0 0)]), 2, 32) := by kernel_rfl
theorem results_ctt {P : Program} {fn : Func} {p u u' : Tmp} {ty : TypeId} (h : fn.results = #[.cell p ty, .tmp u, .tmp u']) (tmps : Array Value) (w : World) (g : Nat) (t : TypeId) (cs : Array Value) (fr : Nat × Nat) (d : TypeDesc)
    (hp : tmps.getD p undef = .pointer (some ⟨g, 0, none⟩)) (hg : w.heap[g]? = some (.cells cs t fr))
    (hu : P.underlying ty = some d) (hd : (match d with | .struct _ | .array _ _ => true | _ => false) = true) (hi : (P.info? ty).map (·.size) = some cs.size) :
    (results fn tmps).run P w = .ok (.tuple #[.agg cs, tmps.getD u undef, tmps.getD u' undef]) w := by
  have h1 : tmps[p]?.getD undef = .pointer (some ⟨g, 0, none⟩) := by simpa using hp
  simp [results, h, h1, asAddr, run_loadVar_row w g t ty cs fr d hg hu hd hi]
/-- Blocks that are none of the space's. -/
def far (g : Nat) (vn vh vp : Value) (k : Nat) : Prop := k ≠ g ∧ some k ≠ vn.ownBlock ∧ some k ≠ vh.ownBlock ∧ some k ≠ vp.ownBlock
/-- In the middle of the run: the result's box, the space in its box, the replies so far. -/
structure Rn (w : World) (g4 g7 : Nat) (T : Int) (o : Out) (vn vh vp v9 : Value) (ds : List S33) (W : World) : Prop where
  d : Below w.heap.size w W
  b4 : W.heap[g4]? = some zS
  l4 : w.heap.size ≤ g4
  n47 : g4 ≠ g7
  o : Own w.heap.size g7 W T o.E vn vh vp o.now o.held o.pins
  s : Kd.S k33 33 W w.heap.size (far g7 vn vh vp) v9 ds
section
variable {w W W' : World} {g4 g7 : Nat} {T : Int} {o r : Out} {vn vh vp v9 v' vr : Value} {ds : List S33}
theorem far_lt {ow : Own w.heap.size g7 W T o.E vn vh vp o.now o.held o.pins} (k : Nat) (h : W.heap.size ≤ k) : far g7 vn vh vp k :=
  ⟨fun e => by have := blk_lt ow.box; omega, fun e => by have := Kd.R_lt ow.r.n k e.symm; omega, fun e => by have := Kd.R_lt ow.r.h k e.symm; omega, fun e => by have := Kd.R_lt ow.r.p k e.symm; omega⟩
theorem Rn.below (R : Rn w g4 g7 T o vn vh vp v9 ds W) (h : Below W.heap.size W W') : Rn w g4 g7 T o vn vh vp v9 ds W' :=
  ⟨below_step R.d h, blk_below R.b4 h, R.l4, R.n47, R.o.below h, Kd.S_below R.s h⟩
/-- Behind an act. -/
theorem Rn.act {vn' vh' vp' : Value} (R : Rn w g4 g7 T o vn vh vp v9 ds W) (s : St W w.heap.size g7 vn vh vp W' T r.E vn' vh' vp' r.now r.held r.pins) : Rn w g4 g7 T r vn' vh' vp' v9 ds W' := by
  have hm : ∀ (v v' : Value) (k : Nat), Room.Move W v v' → some k ≠ v.ownBlock → k < W.heap.size → some k ≠ v'.ownBlock := fun v v' k m hn hl e => by
    rcases m k e.symm with h | h
    · exact hn h.symm
    · omega
  refine ⟨R.d.trans s.d, blk_kept R.b4 s.k ?_, R.l4, R.n47, s.o, ?_⟩
  · rintro (h | h | h)
    · exact R.n47 h
    · exact Kd.R_ne R.o.r.h R.b4 (by decide) h
    · exact Kd.R_ne R.o.r.p R.b4 (by decide) h
  · refine Kd.S_mono (Kd.S_step (Kd.S_bound R.s) (fun k h1 h2 => s.k.2 k h2 (fun h => ?_))) (fun k h => ⟨h.1.1, hm _ _ k s.mn h.1.2.1 h.2.2.1, hm _ _ k s.mh h.1.2.2.1 h.2.2.1, hm _ _ k s.mp h.1.2.2.2 h.2.2.1⟩)
    rcases h with h | h | h
    · exact h1.1.1 h
    · exact h1.1.2.2.1 h
    · exact h1.1.2.2.2 h
/-- The replies' blocks are the elder ones. -/
theorem Rn.elder {vn' vh' vp' : Value} (R : Rn w g4 g7 T o vn vh vp v9 ds W) (s : St W w.heap.size g7 vn vh vp W' T r.E vn' vh' vp' r.now r.held r.pins) : Kd.S k33 33 W' w.heap.size (fun k => far g7 vn' vh' vp' k ∧ k < W.heap.size) v9 ds := by
  have hm : ∀ (v v' : Value) (k : Nat), Room.Move W v v' → some k ≠ v.ownBlock → k < W.heap.size → some k ≠ v'.ownBlock := fun v v' k m hn hl e => by
    rcases m k e.symm with h | h
    · exact hn h.symm
    · omega
  refine Kd.S_mono (Kd.S_step (Kd.S_bound R.s) (fun k h1 h2 => s.k.2 k h2 (fun h => ?_))) (fun k h => ⟨⟨h.1.1, hm _ _ k s.mn h.1.2.1 h.2.2.1, hm _ _ k s.mh h.1.2.2.1 h.2.2.1, hm _ _ k s.mp h.1.2.2.2 h.2.2.1⟩, h.2.2.1⟩)
  rcases h with h | h | h
  · exact h1.1.1 h
  · exact h1.1.2.2.1 h
  · exact h1.1.2.2.2 h
/-- Behind an append. -/
theorem Rn.push {p : S33} (R : Rn w g4 g7 T o vn vh vp v9 ds W) (hs : Kd.S k33 33 W' w.heap.size (far g7 vn vh vp) v' (ds ++ [p])) (hb : Below w.heap.size w W') (hg : W.grownBy W' v9.ownBlock) : Rn w g4 g7 T o vn vh vp v' (ds ++ [p]) W' := by
  have ty := Kd.S_typed R.s
  have nt : ∀ q, q ∈ (3 : Nat) :: [] → q ≠ 33 := by decide
  exact ⟨hb, blk_grown R.b4 hg (Kd.S_ne R.s R.b4 (by decide)), R.l4, R.n47, ⟨blk_grown R.o.box hg (Kd.S_ne R.s R.o.box (by decide)), R.o.hg, ⟨Kd.R_over' R.o.r.n ty (by decide) hg, Kd.R_over' R.o.r.h ty (by decide) hg, Kd.R_over' R.o.r.p ty (by decide) hg⟩⟩, hs⟩
end
theorem none_ {w W : World} (d : Below w.heap.size w W) : Trio w.heap.size W (.slice none 0 0) (.slice none 0 0) (.slice none 0 0) [] [] [] ∧ Kd.S k33 33 W w.heap.size (fun k => some k ≠ (Value.slice none 0 0).ownBlock ∧ some k ≠ (Value.slice none 0 0).ownBlock ∧ some k ≠ (Value.slice none 0 0).ownBlock) (.slice none 0 0) [] ∧ Below w.heap.size w W :=
  ⟨⟨Kd.R_nil _ _ _ _ _, Kd.R_nil _ _ _ _ _, Kd.R_nil _ _ _ _ _⟩, Kd.S_nil _ _ _ _ _, d⟩
set_option maxHeartbeats 8000000 in
set_option maxRecDepth 100000 in
theorem calls (k : Nat) (total : Int) (A : Option Addr) (c : Nat) (l : List S37) (r : Res) (w : World) (hr : Kd.C k37 w A l.length l) (hc : l.length ≤ c) (h : run impl_NewSpace.f (fun T o a => Act.f k T o.E o.now o.held o.pins a.f0 a.f1) total l = some r) :
    Calls Try.prog 19 #[.int .i64 total, .slice A l.length c] w fun e w' => ∃ vn vh vp vr : Value, e = .returned (.tuple #[.agg #[.int .i64 r.T, .int .i64 r.o.E, vn, vh, vp], vr, .int .i64 r.err]) ∧ Trio w.heap.size w' vn vh vp r.o.now r.o.held r.o.pins ∧ Kd.S k33 33 w' w.heap.size (fun k => some k ≠ vn.ownBlock ∧ some k ≠ vh.ownBlock ∧ some k ≠ vp.ownBlock) vr r.rs ∧ Below w.heap.size w w' := by
  have hu31 := Try.underlying31
  have hu37 := Try.underlying37
  unfold run at h
  have HR := Aside0.mk hr
  clear hr
  have BZ : Aside0 (Below w.heap.size w (w.alloc zS)) := ⟨below_alloc (Below.refl _ _) _⟩
  have Z4 : Aside0 ((w.alloc zS).heap[w.heap.size]? = some zS) := ⟨blk_new _ _⟩
  by_cases c0 : (4096 : Int) < (l.length : Int)
  · rw [if_pos c0] at h
    obtain rfl := Option.some.inj h
    have cc : decide ((l.length : Int) > 4096) = true := decide_eq_true c0
    have cc2 : decide ((4096 : Int) < (l.length : Int)) = true := decide_eq_true c0
    clear h c0
    go_enter Try.func19, Try.ntmps19
    go_wp2
    refine bodyPost_ret (results_ctt rfl _ _ _ 31 #[.int .i64 0, .int .i64 0, .slice none 0 0, .slice none 0 0, .slice none 0 0] (0, 0) _ rfl Z4.out Try.underlying31 rfl (by kernel_rfl)) rfl ?_
    exact ⟨_, _, _, _, rfl, none_ BZ.out⟩
  rw [if_neg c0] at h
  obtain ⟨s, hn, h⟩ := Option.bind_eq_some_iff.1 h
  obtain ⟨T, E, now, held, pins, code⟩ := s
  dsimp only at h
  have HNW := Aside0.mk hn
  have cc : decide ((l.length : Int) > 4096) = false := decide_eq_false c0
  have cc2 : decide ((4096 : Int) < (l.length : Int)) = false := decide_eq_false c0
  have HH := Aside0.mk h
  clear hn c0 h
  go_enter Try.func19, Try.ntmps19
  go_upto_region 3 with (fail)
  obtain ⟨g4, hg4⟩ : ∃ g4, g4 = w.heap.size := ⟨_, rfl⟩
  generalize w.alloc zS = W1 at BZ Z4 ⊢
  rw [show (Value.pointer (some ⟨w.heap.size, 0, none⟩)) = .pointer (some ⟨g4, 0, none⟩) by rw [hg4]]
  rw [← hg4] at Z4
  have G4 := Aside0.mk hg4
  clear hg4 cc cc2
  go_upto_region 4 with (go_at_call 42; (with_reducible refine (impl_NewSpace.calls total T E now held pins code W1 HNW.out).mono ?_); rintro e W2 ⟨v2, v3, v4, rfl, r2, r3, r4, hB⟩; obtain ⟨B2, d2, rfl⟩ := Kd.R_slice r2; obtain ⟨B3, d3, rfl⟩ := Kd.R_slice r3; obtain ⟨B4, d4, rfl⟩ := Kd.R_slice r4; have T2 : Aside0 (Trio W1.heap.size W2 (.slice B2 now.length d2) (.slice B3 held.length d3) (.slice B4 pins.length d4) now held pins) := ⟨⟨r2, r3, Kd.R_mono r4 (fun _ _ => trivial)⟩⟩; have B2_ := Aside0.mk hB; clear r2 r3 r4 hB)
  have R3 : Aside0 (Rn w g4 W2.heap.size T ⟨E, now, held, pins, 0, []⟩ (.slice B2 now.length d2) (.slice B3 held.length d3) (.slice B4 pins.length d4) (.slice none 0 0) [] (W2.alloc (.cells #[.int .i64 T, .int .i64 E, .slice B2 now.length d2, .slice B3 held.length d3, .slice B4 pins.length d4] 31))) :=
    ⟨⟨below_alloc (below_step BZ.out B2_.out) _, blk_alloc (blk_below Z4.out B2_.out) _, by rw [G4.out]; exact Nat.le_refl _, Nat.ne_of_lt (blk_lt (blk_below Z4.out B2_.out)), ⟨blk_new _ _, Nat.le_trans BZ.out.size B2_.out.size, (T2.out.below (below_alloc (Below.refl _ _) _)).lower BZ.out.size⟩, Kd.S_nil _ _ _ _ _⟩⟩
  clear T2 B2_ BZ Z4 HNW
  generalize W2.alloc (.cells #[.int .i64 T, .int .i64 E, .slice B2 now.length d2, .slice B3 held.length d3, .slice B4 pins.length d4] 31) = W3 at R3 ⊢
  generalize W2.heap.size = g7 at R3 ⊢
  have z0 := (blk_cell R3.out.b4 0).trans (rfl : _ = some (Value.int .i64 0))
  have z1 := (blk_cell R3.out.b4 1).trans (rfl : _ = some (Value.int .i64 0))
  have z2 := (blk_cell R3.out.b4 2).trans (rfl : _ = some (Value.slice none 0 0))
  have z3 := (blk_cell R3.out.b4 3).trans (rfl : _ = some (Value.slice none 0 0))
  have z4 := (blk_cell R3.out.b4 4).trans (rfl : _ = some (Value.slice none 0 0))
  have zf := blk_frozen R3.out.b4
  by_cases c1 : code = 0
  rotate_left
  · have h := HH.out
    rw [if_neg c1] at h
    obtain rfl := Option.some.inj h
    have ct : (code != 0) = true := bne_iff_ne.mpr c1
    clear h c1 HH
    go_wp2
    refine bodyPost_ret (results_ctt rfl _ _ g4 31 #[.int .i64 0, .int .i64 0, .slice none 0 0, .slice none 0 0, .slice none 0 0] (0, 0) _ rfl (put5 R3.out.b4) Try.underlying31 rfl (by kernel_rfl)) rfl ?_
    exact ⟨_, _, _, _, rfl, none_ (five_below R3.out.d R3.out.l4)⟩
  subst c1
  by_cases c2 : (200 : Int) < (l.length : Int)
  · have h := HH.out
    rw [if_pos rfl, if_pos c2] at h
    obtain rfl := Option.some.inj h
    have ct : decide ((l.length : Int) > 200) = true := decide_eq_true c2
    have ct2 : decide ((200 : Int) < (l.length : Int)) = true := decide_eq_true c2
    clear h c2 HH
    go_wp2
    refine bodyPost_ret (results_ctt rfl _ _ g4 31 #[.int .i64 0, .int .i64 0, .slice none 0 0, .slice none 0 0, .slice none 0 0] (0, 0) _ rfl (put5 R3.out.b4) Try.underlying31 rfl (by kernel_rfl)) rfl ?_
    exact ⟨_, _, _, _, rfl, none_ (five_below R3.out.d R3.out.l4)⟩
  have h := HH.out
  rw [if_pos rfl, if_neg c2] at h
  obtain ⟨⟨o', rs⟩, hz, h⟩ := Option.bind_eq_some_iff.1 h
  obtain rfl := Option.some.inj h
  have HZ := Aside0.mk hz
  have HN := Aside0.mk c2
  have ct : decide ((l.length : Int) > 200) = false := decide_eq_false c2
  have ct2 : decide ((200 : Int) < (l.length : Int)) = false := decide_eq_false c2
  clear h hz c2 HH z0 z1 z2 z3 z4 zf
  go_upto_region 9 with (fail)
  have R4 : Aside0 (Rn w g4 g7 T ⟨E, now, held, pins, 0, []⟩ (.slice B2 now.length d2) (.slice B3 held.length d3) (.slice B4 pins.length d4) (.slice (some ⟨W3.heap.size, 0, none⟩) 0 0) [] (W3.alloc (.cells #[] 33))) := ⟨by
    have R := R3.out.below (below_alloc (Below.refl _ _) (.cells #[] 33))
    exact ⟨R.d, R.b4, R.l4, R.n47, R.o, Kd.S_bare (Room.empty _ _ _ _ _ _ (blk_new _ _) R3.out.d.size (far_lt (ow := R3.out.o) _ (Nat.le_refl _)))⟩⟩
  clear R3 ct ct2
  generalize W3.alloc (.cells #[] 33) = W4 at R4 ⊢
  generalize Value.slice (some ⟨W3.heap.size, 0, none⟩) 0 0 = v9 at R4 ⊢
  go_wp2
  go_loopg [34, 9] l.length (fun gg s34 s9 wr => ∃ (i : Nat) (o : Out) (ds : List S33) (rs' : List S33) (vn vh vp : Value), s34 = .int .i64 (i : Int) ∧ Aside0 (i ≤ l.length ∧ l.length ≤ i + gg ∧ ds.length = i ∧ ds ++ rs' = rs) ∧ Aside0 (steps (fun o a => Act.f k T o.E o.now o.held o.pins a.f0 a.f1) (l.drop i) o = some (o', rs')) ∧ Aside0 (Rn w g4 g7 T o vn vh vp s9 ds wr))
  case atStart => exact ⟨0, _, [], rs, _, _, _, rfl, ⟨Nat.zero_le _, by omega, rfl, rfl⟩, HZ, R4⟩
  case round =>
    clear R4 HZ
    obtain ⟨i, o, ds, rs', vn, vh, vp, rfl, HI, HS, R⟩ := hrel
    by_cases hin : i < l.length
    · have cl : decide ((i : Int) < (l.length : Int)) = true := decide_eq_true (Int.ofNat_lt.2 hin)
      have p1 : (0 : Int) ≤ (i : Int) := Int.natCast_nonneg i
      have p2 : (i : Int) < (l.length : Int) := Int.ofNat_lt.2 hin
      have hw : wrap64 ((i : Int) + 1) = ((i + 1 : Nat) : Int) := by have := HN.out; unfold wrap64; omega
      obtain ⟨ad, e0, hx0, hx1⟩ := at_T37 HR.out (i : Int) p1 p2
      replace hx0 := (R.out.d.cell (World.block_lt_of_cell? w _ hx0)).trans hx0
      replace hx1 := (R.out.d.cell (World.block_lt_of_cell? w _ hx1)).trans hx1
      cases e0
      rw [Int.toNat_natCast] at hx0 hx1
      have hd := HS.out
      rw [List.drop_eq_getElem_cons hin, steps] at hd
      obtain ⟨r, hf, hd⟩ := Option.bind_eq_some_iff.1 hd
      obtain ⟨⟨o2, rs2⟩, hs2, hd⟩ := Option.bind_eq_some_iff.1 hd
      have hd := Option.some.inj hd
      have ex : l[i] = rd_T37 l (i : Int) := by unfold rd_T37; rw [Int.toNat_natCast, List.getD_eq_getElem?_getD, List.getElem?_eq_getElem hin]; rfl
      rw [ex] at hf
      have HF := Aside0.mk hf
      have HD := Aside0.mk (And.intro hs2 hd)
      have HQ : Aside0 ((ds.length + 1) * 32 ≤ 140737488355328) := ⟨by have := HI.out; have := HN.out; omega⟩
      clear hf hd hs2 ex
      generalize rd_T37 l (i : Int) = x at hx0 hx1 HF
      have RA := Aside0.mk (R.out.below (below_alloc (Below.refl _ _) (.cells #[.int .i64 x.f0, .int .i64 x.f1] 37)))
      go_wp2_with (first
        | (go_at_call 34; (with_reducible refine (Act.calls k w.heap.size g7 _ T o.E vn vh vp o.now o.held o.pins x.f0 x.f1 r RA.out.d.size RA.out.o HF.out).mono ?_); rintro e W5 ⟨vn', vh', vp', vr, rfl, st, hr⟩; have R5 := Aside0.mk (RA.out.act st); have E5 := Aside0.mk (RA.out.elder st); have V5 := Aside0.mk hr; clear st hr)
        | ((with_reducible refine gate_builtin (b := .append) (xs := #[.tmp 38, .tmp 41]) rfl ?_); at_builtin; refine Kd.S_append k33 (w0 := w) w.heap.size rfl (.tmp 38) (.tmp 41) 46 33 (.agg #[.int .i64 0, .slice none 0 0]) 32 rfl Try.underlying46 info33 rfl (by decide) (by omega) _ ds (⟨r.code, r.pages⟩ : S33) [.int .i64 r.code, vr] (far g7 vn' vh' vp') (fun k => some k = vr.ownBlock) rfl rfl (k33_mkM _ _ _ ⟨r.code, r.pages⟩ (Kd.R_reok rfl (Kd.R_lower V5.out RA.out.d.size) (fun k hk => hk.symm))) ?hk (fun k hk => far_lt (ow := R5.out.o) k hk) (Kd.S_mono E5.out (fun k h => ⟨h.1, fun e => Nat.lt_irrefl _ (Nat.lt_of_lt_of_le h.2 (Kd.R_base V5.out k e.symm))⟩)) R5.out.d R5.out.d.size HQ.out ?_; (case hk => exact fun k hk => ⟨⟨(V5.out.1 k hk.symm).2.2.2, (V5.out.1 k hk.symm).1, (V5.out.1 k hk.symm).2.1, (V5.out.1 k hk.symm).2.2.1⟩, Ownl.typed V5.out (Kd.S_R R5.out.s) (by decide) k hk.symm⟩); intro v6 w6 hs hb hg hat; have R6 := Aside0.mk (R5.out.push hs hb hg); clear hs hb hg hat))
      go_roundg (gk - 1)
      case measure => have := HI.out; omega
      case rel =>
        obtain ⟨h1, h2⟩ := HD.out
        injection h2 with h2 h3
        subst h2
        have hI := HI.out
        exact ⟨i + 1, r, ds ++ [⟨r.code, r.pages⟩], rs2, vn', vh', vp', by first | rfl | (rw [hw]; done), ⟨by omega, by omega, by simp; omega, by rw [List.append_assoc, List.singleton_append, h3]; exact hI.2.2.2⟩, ⟨h1⟩, R6⟩
    · have cl : decide ((i : Int) < (l.length : Int)) = false := decide_eq_false (by omega)
      have hI := HI.out
      have hi : i = l.length := by omega
      have hd := HS.out
      rw [hi, List.drop_length, steps] at hd
      have hd := Option.some.inj hd
      injection hd with h2 h3
      subst h2 h3
      have hds : ds = rs := by have := hI.2.2.2; rwa [List.append_nil] at this
      subst hds
      clear hd HS hI hi
      obtain ⟨X2, y2, e2⟩ := Kd.R_slice R.out.o.r.n
      obtain ⟨X3, y3, e3⟩ := Kd.R_slice R.out.o.r.h
      obtain ⟨X4, y4, e4⟩ := Kd.R_slice R.out.o.r.p
      generalize List.length _ = m2 at e2
      generalize List.length _ = m3 at e3
      generalize List.length _ = m4 at e4
      subst e2 e3 e4
      have q0 := (blk_cell R.out.o.box 0).trans (rfl : _ = some (Value.int .i64 T))
      have q1 := (blk_cell R.out.o.box 1).trans (rfl : _ = some (Value.int .i64 o.E))
      have q2 := (blk_cell R.out.o.box 2).trans (rfl : _ = some (Value.slice X2 m2 y2))
      have q3 := (blk_cell R.out.o.box 3).trans (rfl : _ = some (Value.slice X3 m3 y3))
      have q4 := (blk_cell R.out.o.box 4).trans (rfl : _ = some (Value.slice X4 m4 y4))
      have z0 := (blk_cell R.out.b4 0).trans (rfl : _ = some (Value.int .i64 0))
      have z1 := (blk_cell R.out.b4 1).trans (rfl : _ = some (Value.int .i64 0))
      have z2 := (blk_cell R.out.b4 2).trans (rfl : _ = some (Value.slice none 0 0))
      have z3 := (blk_cell R.out.b4 3).trans (rfl : _ = some (Value.slice none 0 0))
      have z4 := (blk_cell R.out.b4 4).trans (rfl : _ = some (Value.slice none 0 0))
      have zf := blk_frozen R.out.b4
      go_wp2
      have S5 := Kd.S_set (Kd.S_set (Kd.S_set (Kd.S_set (Kd.S_set R.out.s R.out.b4 (by decide) 0 (.int .i64 T)) (blk_put R.out.b4 0 _ rfl) (by decide) 1 (.int .i64 o.E)) (blk_put (blk_put R.out.b4 0 _ rfl) 1 _ rfl) (by decide) 2 (.slice X2 m2 y2)) (blk_put (blk_put (blk_put R.out.b4 0 _ rfl) 1 _ rfl) 2 _ rfl) (by decide) 3 (.slice X3 m3 y3)) (blk_put (blk_put (blk_put (blk_put R.out.b4 0 _ rfl) 1 _ rfl) 2 _ rfl) 3 _ rfl) (by decide) 4 (.slice X4 m4 y4)
      refine bodyPost_ret (results_ctt rfl _ _ g4 31 #[.int .i64 T, .int .i64 o.E, .slice X2 m2 y2, .slice X3 m3 y3, .slice X4 m4 y4] (0, 0) _ rfl (put5 R.out.b4) Try.underlying31 rfl (by kernel_rfl)) rfl ?_
      exact ⟨_, _, _, _, rfl, R.out.o.r.five R.out.b4, Kd.S_mono S5 (fun k h => h.2), five_below R.out.d R.out.l4⟩
end Go.Proofs.Ytcnkacbgcmnokaa.XR.Irun
/- A statement of the reference's SpaceRun, a region that draws its order and makes two boxes: what holds behind it in whatever order. -/
namespace Go.Proofs.Ytcnkacbgcmnokaa.XR.Regc
open Go Go.RowKit Go.Proofs.YtcnkacbgcmnokaaW.PrintWords Go.Proofs.YtcnkacbgcmnokaaW.PrintLast Go.Proofs.YtcnkacbgcmnokaaW.PrintMore Go.Proofs.Ytcnkacbgcmnokaa.XR Go.Proofs.Ytcnkacbgcmnokaa.XR.Room Go.Proofs.Ytcnkacbgcmnokaa.XR.Fram
set_option linter.unusedVariables false
set_option linter.unusedSimpArgs false
structure Dt where
  x0 : Int
  x1 : Int
  x2 : Value
  x3 : Value
  x4 : Value
  y0 : Int
  y1 : Int
  T : Int
  F : Int
  code : Int
  err : Int
  J1 : Value → World → Prop
  J3 : Value → Value → Value → Value → World → Prop
def Dt.A (p : Dt) : Value := .agg #[.int .i64 p.x0, .int .i64 p.x1, p.x2, p.x3, p.x4]
def Dt.B (p : Dt) : Value := .agg #[.int .i64 p.y0, .int .i64 p.y1]
structure Us where
  u2 : Value
  u3 : Value
  u4 : Value
  u5 : Value
def Dt.S (p : Dt) (u : Us) : Value := .agg #[.int .i64 p.T, .int .i64 p.F, u.u2, u.u3, u.u4]
def Dt.R (p : Dt) (u : Us) : Value := .agg #[.int .i64 p.code, u.u5]
def Dt.E (p : Dt) : Value := .int .i64 p.err
def Dt.U (p : Dt) (u : Us) : Value := .tuple #[p.S u, p.R u]
def Dt.J (p : Dt) (u : Us) (W : World) : Prop := p.J3 u.u2 u.u3 u.u4 u.u5 W
/-- What is asked of the results' facts. -/
structure Ok (p : Dt) : Prop where
  s1 : ∀ v W W', p.J1 v W → Below W.heap.size W W' → p.J1 v W'
  s3 : ∀ u W W', p.J u W → Below W.heap.size W W' → p.J u W'
  t3 : ∀ u W g t cs, p.J u W → W.heap[g]? = some (.cells cs t (0, 0)) → t = 31 ∨ t = 33 → ∀ j v, p.J u (W.setCell ⟨g, j, none⟩ v)
  o3 : ∀ u W, p.J u W → u.u2.oneCell' = true ∧ u.u3.oneCell' = true ∧ u.u4.oneCell' = true ∧ u.u5.oneCell' = true
/-- A space stored. -/
def five (p : Dt) (u : Us) (g : Nat) (W : World) : World := (((((W.setCell ⟨g, 0, none⟩ (.int .i64 p.T)).setCell ⟨g, 1, none⟩ (.int .i64 p.F)).setCell ⟨g, 2, none⟩ u.u2).setCell ⟨g, 3, none⟩ u.u3).setCell ⟨g, 4, none⟩ u.u4)
def two (p : Dt) (u : Us) (g : Nat) (W : World) : World := ((W.setCell ⟨g, 0, none⟩ (.int .i64 p.code)).setCell ⟨g, 1, none⟩ u.u5)
theorem five_told {p : Dt} {u : Us} {w W : World} {g h : Nat} (O : Ok p) (d : Below w.heap.size w W) (l : w.heap.size ≤ g) (b : W.heap[g]? = some zS) (b' : W.heap[h]? = some zR) (j : p.J u W) :
    Below w.heap.size w (five p u g W) ∧ (five p u g W).heap[g]? = some (.cells #[.int .i64 p.T, .int .i64 p.F, u.u2, u.u3, u.u4] 31 (0, 0)) ∧ (five p u g W).heap[h]? = some zR ∧ p.J u (five p u g W) := by
  have n : h ≠ g := (by intro e; subst e; rw [b] at b'; injection b' with b'; injection b' with _ b'; exact absurd b' (by decide))
  have i0 := O.t3 u _ g 31 _ j b (.inl rfl) 0 (.int .i64 p.T)
  have i1 := O.t3 u _ g 31 _ i0 (blk_set b 0 _) (.inl rfl) 1 (.int .i64 p.F)
  have i2 := O.t3 u _ g 31 _ i1 (blk_set (blk_set b 0 _) 1 _) (.inl rfl) 2 u.u2
  have i3 := O.t3 u _ g 31 _ i2 (blk_set (blk_set (blk_set b 0 _) 1 _) 2 _) (.inl rfl) 3 u.u3
  exact ⟨five_below d l, put5 b, blk_far (blk_far (blk_far (blk_far (blk_far b' (p := ⟨g, 0, none⟩) n _) (p := ⟨g, 1, none⟩) n _) (p := ⟨g, 2, none⟩) n _) (p := ⟨g, 3, none⟩) n _) (p := ⟨g, 4, none⟩) n _, O.t3 u _ g 31 _ i3 (blk_set (blk_set (blk_set (blk_set b 0 _) 1 _) 2 _) 3 _) (.inl rfl) 4 u.u4⟩
theorem two_told {p : Dt} {u : Us} {w W : World} {g h : Nat} {cs : Array Value} (O : Ok p) (d : Below w.heap.size w W) (l : w.heap.size ≤ h) (b : W.heap[g]? = some (.cells cs 31 (0, 0))) (b' : W.heap[h]? = some zR) (j : p.J u W) :
    Below w.heap.size w (two p u h W) ∧ (two p u h W).heap[g]? = some (.cells cs 31 (0, 0)) ∧ (two p u h W).heap[h]? = some (.cells #[.int .i64 p.code, u.u5] 33 (0, 0)) ∧ p.J u (two p u h W) := by
  have n : g ≠ h := (by intro e; subst e; rw [b] at b'; injection b' with b'; injection b' with _ b'; exact absurd b' (by decide))
  have i5 := O.t3 u _ h 33 _ j b' (.inr rfl) 0 (.int .i64 p.code)
  exact ⟨(d.setCell (p := ⟨h, 0, none⟩) l _).setCell (p := ⟨h, 1, none⟩) l _, blk_far (blk_far b (p := ⟨h, 0, none⟩) n _) (p := ⟨h, 1, none⟩) n _, put2 b', O.t3 u _ h 33 _ i5 (blk_set b' 0 _) (.inr rfl) 1 u.u5⟩
def o0 : Oper := ⟨some 41, Op.load 31 (Operand.tmp 7), 31, "l04_space.go:153", #[], none⟩
def o1 : Oper := ⟨some 42, Op.move (Operand.tmp 1), 49, "l04_space.go:153", #[], none⟩
def o2 : Oper := ⟨some 43, Op.move (Operand.tmp 10), 3, "l04_space.go:153", #[], none⟩
def o3 : Oper := ⟨some 44, Op.indexAddr 49 (Operand.tmp 42) (Operand.tmp 43), 0, "l04_space.go:153", #[da 1, da 2], none⟩
def o4 : Oper := ⟨some 45, Op.load 37 (Operand.tmp 44), 37, "l04_space.go:153", #[da 3], none⟩
def o5 : Oper := ⟨some 46, Op.call { callee := Callee.value (Operand.func 28), args := #[Operand.tmp 41, Operand.tmp 45], argTypes := #[31, 37] }, 59, "l04_space.go:153", #[da 0, da 4], none⟩
def o6 : Oper := ⟨some 40, Op.move (Operand.tmp 46), 59, "l04_space.go:153", #[da 5], none⟩
def o7 : Oper := ⟨some 47, Op.extract (Operand.tmp 40) 0, 31, "l04_space.go:153", #[da 6], none⟩
def o8 : Oper := ⟨some 48, Op.extract (Operand.tmp 40) 1, 33, "l04_space.go:153", #[da 6, gc 11], none⟩
def o9 : Oper := ⟨some 11, Op.alloc 31, 0, "l04_space.go:153", #[], none⟩
def o10 : Oper := ⟨some 12, Op.alloc 33, 0, "l04_space.go:153", #[], none⟩
def o11 : Oper := ⟨none, Op.store 31 (Operand.tmp 11) (Operand.tmp 47), 0, "l04_space.go:153", #[da 9, da 7, cn 5, ph 0, ph 1, ph 2, ph 3, ph 4, ph 5, ph 6, ph 7, tx 8, ph 9, ph 10], none⟩
def o12 : Oper := ⟨none, Op.store 33 (Operand.tmp 12) (Operand.tmp 48), 0, "l04_space.go:153", #[da 10, da 8, cn 11, ph 0, ph 1, ph 2, ph 3, ph 4, ph 5, ph 6, ph 7, ph 8, ph 9, ph 10, ph 11], none⟩
def ops : Array Oper := #[o0, o1, o2, o3, o4, o5, o6, o7, o8, o9, o10, o11, o12]
def D : List Nat := [41, 42, 43, 44, 45, 46, 40, 47, 48, 11, 12]
def L (c : Nat) (x y t : Bool) : Array Bool := #[true, true, true, true, true, Nat.blt 0 c, t, t, t, x, y, false, false]
/-- What is known at the region's beginning, and what is asked behind it. -/
structure Cx (p : Dt) (a0 : Act) (w : World) (Q : Exit → Act → World → Prop) (ga : Nat) (ad : Addr) (i n c : Nat) : Prop where
  ok : Ok p
  sz : a0.tmps.size = 57
  pa : at_ a0 7 (pt ga)
  pb : at_ a0 1 (.slice (some ad) n c)
  pc : at_ a0 10 (.int .i64 (i : Int))
  i0 : (0 : Int) ≤ (i : Int)
  i1 : (i : Int) < (n : Int)
  ya : ∀ W, Below w.heap.size w W → W.cell? ⟨ga, 0, none⟩ = some (.int .i64 p.x0) ∧ W.cell? ⟨ga, 1, none⟩ = some (.int .i64 p.x1) ∧ W.cell? ⟨ga, 2, none⟩ = some p.x2 ∧ W.cell? ⟨ga, 3, none⟩ = some p.x3 ∧ W.cell? ⟨ga, 4, none⟩ = some p.x4
  yb : ∀ W, Below w.heap.size w W → W.cell? (ad.add (i * 2)) = some (.int .i64 p.y0) ∧ W.cell? ⟨(ad.add (i * 2)).block, (ad.add (i * 2)).off + 1, none⟩ = some (.int .i64 p.y1)
  c2 : ∀ W, Below w.heap.size w W → Calls Try.prog 28 #[p.A, p.B] W fun e W' => ∃ u, e = .returned (p.U u) ∧ p.J u W' ∧ Below W.heap.size W W'
  hp : ∀ c a d v W, Q (.panic c) (st a d v) W → Q (.panic c) a W
  hq : ∀ (z : Nat → Value) (u : Us) (g h : Nat) (W : World), Below w.heap.size w W → p.J u W → w.heap.size ≤ g → w.heap.size ≤ h → W.heap[g]? = some (.cells #[.int .i64 p.T, .int .i64 p.F, u.u2, u.u3, u.u4] 31 (0, 0)) → W.heap[h]? = some (.cells #[.int .i64 p.code, u.u5] 33 (0, 0)) → Q .normal ⟨(((((((((((a0.tmps.setIfInBounds 12 (pt h)).setIfInBounds 11 (pt g)).setIfInBounds 48 (z 48)).setIfInBounds 47 (z 47)).setIfInBounds 40 (z 40)).setIfInBounds 46 (z 46)).setIfInBounds 45 (z 45)).setIfInBounds 44 (z 44)).setIfInBounds 43 (z 43)).setIfInBounds 42 (z 42)).setIfInBounds 41 (z 41)), a0.defers⟩ W
section
variable {p : Dt} {a0 a : Act} {w W : World} {Q : Exit → Act → World → Prop} {ga g h i n c k : Nat} {ad : Addr} {x y : Option Nat} {u : Us} {K : Act → World → Prop}
/-- Behind k of the calls, with these boxes made. -/
structure Nd (p : Dt) (a0 : Act) (w : World) (u : Us) (k : Nat) (x y : Option Nat) (a : Act) (W : World) : Prop where
  fa : Fa D a0 a
  d : Below w.heap.size w W
  ea : at_ a 41 p.A
  eb : at_ a 45 p.B
  e2 : 1 ≤ k → at_ a 46 (p.U u) ∧ p.J u W
  e6 : ∀ g, x = some g → at_ a 11 (pt g) ∧ W.heap[g]? = some zS ∧ w.heap.size ≤ g
  e7 : ∀ g, y = some g → at_ a 12 (pt g) ∧ W.heap[g]? = some zR ∧ w.heap.size ≤ g
theorem Nd.a6 (X : Cx p a0 w Q ga ad i n c)  (H : Nd p a0 w u k none y a W) : Nd p a0 w u k (some W.heap.size) y (st a 11 (pt W.heap.size)) (W.alloc zS) :=
  have hB : Below W.heap.size W (W.alloc zS) := below_alloc (Below.refl _ _) _
  ⟨H.fa.put (by decide) _, below_step H.d hB, st_ne (by decide) H.ea, st_ne (by decide) H.eb, fun h => ⟨st_ne (by decide) (H.e2 h).1, X.ok.s3 _ _ _ (H.e2 h).2 hB⟩, fun g hg => by cases hg; exact ⟨st_eq (by rw [H.fa.sz, X.sz]; decide), blk_new _ _, H.d.size⟩, fun g hg => ⟨st_ne (by decide) (H.e7 g hg).1, blk_below (H.e7 g hg).2.1 hB, (H.e7 g hg).2.2⟩⟩
theorem Nd.a7 (X : Cx p a0 w Q ga ad i n c)  (H : Nd p a0 w u k x none a W) : Nd p a0 w u k x (some W.heap.size) (st a 12 (pt W.heap.size)) (W.alloc zR) :=
  have hB : Below W.heap.size W (W.alloc zR) := below_alloc (Below.refl _ _) _
  ⟨H.fa.put (by decide) _, below_step H.d hB, st_ne (by decide) H.ea, st_ne (by decide) H.eb, fun h => ⟨st_ne (by decide) (H.e2 h).1, X.ok.s3 _ _ _ (H.e2 h).2 hB⟩, fun g hg => ⟨st_ne (by decide) (H.e6 g hg).1, blk_below (H.e6 g hg).2.1 hB, (H.e6 g hg).2.2⟩, fun g hg => by cases hg; exact ⟨st_eq (by rw [H.fa.sz, X.sz]; decide), blk_new _ _, H.d.size⟩⟩
theorem Nd.c2 (X : Cx p a0 w Q ga ad i n c) {u' : Us} {W' : World} (hb : Below W.heap.size W W') (hj : p.J u' W') (H : Nd p a0 w u 0 x y a W) : Nd p a0 w u' 1 x y (st a 46 (p.U u')) W' :=
  have hB : Below W.heap.size W W' := hb
  ⟨H.fa.put (by decide) _, below_step H.d hB, st_ne (by decide) H.ea, st_ne (by decide) H.eb, fun _ => ⟨st_eq (by rw [H.fa.sz, X.sz]; decide), hj⟩, fun g hg => ⟨st_ne (by decide) (H.e6 g hg).1, blk_below (H.e6 g hg).2.1 hB, (H.e6 g hg).2.2⟩, fun g hg => ⟨st_ne (by decide) (H.e7 g hg).1, blk_below (H.e7 g hg).2.1 hB, (H.e7 g hg).2.2⟩⟩
theorem run9 (h : K (st a 11 (pt W.heap.size)) (W.alloc zS)) : wpOp Try.prog ops Q 9 K a W := by
  refine wpOp_step (o := o9) rfl (fun K2 hK2 => ?_)
  unfold o9
  have hu := Try.underlying31
  go_simp
  exact hK2 _ _ h
theorem run10 (h : K (st a 12 (pt W.heap.size)) (W.alloc zR)) : wpOp Try.prog ops Q 10 K a W := by
  refine wpOp_step (o := o10) rfl (fun K2 hK2 => ?_)
  unfold o10
  have hu := Try.underlying33
  go_simp
  exact hK2 _ _ h
theorem run5 {z0 z1 : Value} {R : Value → World → Prop} (g0 : at_ a 41 z0) (g1 : at_ a 45 z1) (hc : Calls Try.prog 28 #[z0, z1] W (fun e W' => ∃ v, e = .returned v ∧ R v W')) (h : ∀ v W', R v W' → K (st a 46 v) W') : wpOp Try.prog ops Q 5 K a W := by
  refine wpOp_step (o := o5) rfl (fun K2 hK2 => ?_)
  unfold o5
  have h_ := Aside0.mk h; clear h; have c_ := Aside0.mk hc; clear hc
  go_simp
  refine c_.out.mono ?_
  rintro e W' ⟨v_, rfl, hr⟩
  exact hK2 _ _ (h_.out _ _ hr)
theorem run11 (g0 : at_ a 11 (pt g)) (g1 : at_ a 47 (p.S u)) (hb : W.heap[g]? = some zS) (w2 : u.u2.oneCell' = true) (w3 : u.u3.oneCell' = true) (w4 : u.u4.oneCell' = true) (h : K a (five p u g W)) : wpOp Try.prog ops Q 11 K a W := by
  refine wpOp_step (o := o11) rfl (fun K2 hK2 => ?_)
  unfold o11
  unfold Dt.S at g1
  have hu := Try.underlying31
  have r2 := fun W a m => run_store Try.prog W a u.u2 m w2
  have r3 := fun W a m => run_store Try.prog W a u.u3 m w3
  have r4 := fun W a m => run_store Try.prog W a u.u4 m w4
  have q0 := blk_cell hb 0
  have q1 := blk_cell hb 1
  have q2 := blk_cell hb 2
  have q3 := blk_cell hb 3
  have q4 := blk_cell hb 4
  have qf := blk_frozen hb
  have h_ := Aside0.mk h; clear h hb
  go_simp
  exact hK2 _ _ h_.out
theorem run12 (g0 : at_ a 12 (pt g)) (g1 : at_ a 48 (p.R u)) (hb : W.heap[g]? = some zR) (w5 : u.u5.oneCell' = true) (h : K a (two p u g W)) : wpOp Try.prog ops Q 12 K a W := by
  refine wpOp_step (o := o12) rfl (fun K2 hK2 => ?_)
  unfold o12
  unfold Dt.R at g1
  have hu := Try.underlying33
  have r5 := fun W a m => run_store Try.prog W a u.u5 m w5
  have q0 := blk_cell hb 0
  have q1 := blk_cell hb 1
  have qf := blk_frozen hb
  have h_ := Aside0.mk h; clear h hb
  go_simp
  exact hK2 _ _ h_.out
def F (x y : Option Nat) : Nat := Nat.sub 1 x.isSome.toNat + Nat.sub 1 y.isSome.toNat
structure Ne (p : Dt) (a0 : Act) (w : World) (u : Us) (x y : Option Nat) (a : Act) (W : World) : Prop where
  n : Nd p a0 w u 1 x y a W
  m : at_ a 40 (p.U u)
  q0 : at_ a 47 (p.S u)
  q1 : at_ a 48 (p.R u)
theorem Ne.a6 (X : Cx p a0 w Q ga ad i n c) (H : Ne p a0 w u none y a W) : Ne p a0 w u (some W.heap.size) y (st a 11 (pt W.heap.size)) (W.alloc zS) :=
  ⟨H.n.a6 X, st_ne (by decide) H.m, st_ne (by decide) H.q0, st_ne (by decide) H.q1⟩
theorem Ne.a7 (X : Cx p a0 w Q ga ad i n c) (H : Ne p a0 w u x none a W) : Ne p a0 w u x (some W.heap.size) (st a 12 (pt W.heap.size)) (W.alloc zR) :=
  ⟨H.n.a7 X, st_ne (by decide) H.m, st_ne (by decide) H.q0, st_ne (by decide) H.q1⟩
theorem Nd.put {d : Nat} (hd : d = 40 ∨ d = 47 ∨ d = 48) (z : Value) (H : Nd p a0 w u k x y a W) : Nd p a0 w u k x y (st a d z) W := by
  have n : ∀ k, k ∈ [41, 45, 46, 11, 12] → d ≠ k := by rcases hd with rfl | rfl | rfl <;> decide
  exact ⟨H.fa.put (by rcases hd with rfl | rfl | rfl <;> decide) _, H.d, st_ne (n _ (by decide)) H.ea, st_ne (n _ (by decide)) H.eb, fun h => ⟨st_ne (n _ (by decide)) (H.e2 h).1, (H.e2 h).2⟩, fun g hg => ⟨st_ne (n _ (by decide)) (H.e6 g hg).1, (H.e6 g hg).2⟩, fun g hg => ⟨st_ne (n _ (by decide)) (H.e7 g hg).1, (H.e7 g hg).2⟩⟩
theorem takes (X : Cx p a0 w Q ga ad i n c) (H : Nd p a0 w u 1 x y a W) (h : ∀ a2, Ne p a0 w u x y a2 W → wpAnyH Try.prog .any ops Q (fun W => Below w.heap.size w W) (F x y + 2) (L 1 x.isSome y.isSome true) a2 W) : wpAnyH Try.prog .any ops Q (fun W => Below w.heap.size w W) (F x y + 5) (L 1 x.isSome y.isSome false) a W := by
  have h_ := Aside0.mk h; clear h
  have hs : Aside0 (a.tmps.size = 57) := ⟨H.fa.sz.trans X.sz⟩
  refine wpAnyH_take (i := 6) (oi := o6) (v := p.U u) rfl (by kernel_rfl) (by rcases x with _ | _ <;> rcases y with _ | _ <;> kernel_rfl) (by rcases x with _ | _ <;> rcases y with _ | _ <;> kernel_rfl) (fun c a w h => X.hp c a 40 _ w h) (Or.inl ⟨by rfl, fun w2 _ => by have g := (H.e2 (Nat.le_refl _)).1; unfold o6; go_simp⟩) H.d ?_
  obtain ⟨b0, hb0⟩ : ∃ b, b = st a 40 (p.U u) := ⟨_, rfl⟩
  rw [show (Act.put a o6.dst (p.U u)) = b0 by rw [hb0]; rfl]; have hu := Aside0.mk hb0; clear hb0; have hb0 := hu; clear hu
  have hs0 : Aside0 (b0.tmps.size = 57) := ⟨by rw [hb0.out]; exact Array.size_setIfInBounds.trans hs.out⟩
  have m0 : at_ b0 40 (p.U u) := by rw [hb0.out]; exact st_eq (by rw [hs.out]; decide)
  refine wpAnyH_take (i := 7) (oi := o7) (v := p.S u) rfl (by kernel_rfl) (by rcases x with _ | _ <;> rcases y with _ | _ <;> kernel_rfl) (by rcases x with _ | _ <;> rcases y with _ | _ <;> kernel_rfl) (fun c a w h => X.hp c a 47 _ w h) (Or.inl ⟨by rfl, fun w2 _ => by have g : p.U u = .tuple #[p.S u, p.R u] := rfl; unfold o7; go_simp⟩) H.d ?_
  obtain ⟨b1, hb1⟩ : ∃ b, b = st b0 47 (p.S u) := ⟨_, rfl⟩
  rw [show (Act.put b0 o7.dst (p.S u)) = b1 by rw [hb1]; rfl]; have hu := Aside0.mk hb1; clear hb1; have hb1 := hu; clear hu
  have hs1 : Aside0 (b1.tmps.size = 57) := ⟨by rw [hb1.out]; exact Array.size_setIfInBounds.trans hs0.out⟩
  have m1 : at_ b1 40 (p.U u) := by rw [hb1.out]; exact st_ne (by decide) m0
  refine wpAnyH_take (i := 8) (oi := o8) (v := p.R u) rfl (by kernel_rfl) (by rcases x with _ | _ <;> rcases y with _ | _ <;> kernel_rfl) (by rcases x with _ | _ <;> rcases y with _ | _ <;> kernel_rfl) (fun c a w h => X.hp c a 48 _ w h) (Or.inl ⟨by rfl, fun w2 _ => by have g : p.U u = .tuple #[p.S u, p.R u] := rfl; unfold o8; go_simp⟩) H.d ?_
  obtain ⟨b2, hb2⟩ : ∃ b, b = st b1 48 (p.R u) := ⟨_, rfl⟩
  rw [show (Act.put b1 o8.dst (p.R u)) = b2 by rw [hb2]; rfl]; have hu := Aside0.mk hb2; clear hb2; have hb2 := hu; clear hu
  have hs2 : Aside0 (b2.tmps.size = 57) := ⟨by rw [hb2.out]; exact Array.size_setIfInBounds.trans hs1.out⟩
  have m2 : at_ b2 40 (p.U u) := by rw [hb2.out]; exact st_ne (by decide) m1
  have n0 : Nd p a0 w u 1 x y b0 W := by rw [hb0.out]; exact H.put (.inl rfl) _
  have n1 : Nd p a0 w u 1 x y b1 W := by rw [hb1.out]; exact n0.put (.inr (.inl rfl)) _
  have n2 : Nd p a0 w u 1 x y b2 W := by rw [hb2.out]; exact n1.put (.inr (.inr rfl)) _
  have q1 : at_ b2 48 (p.R u) := by rw [hb2.out]; exact st_eq (by rw [hs1.out]; decide)
  have q0 : at_ b2 47 (p.S u) := by rw [hb2.out]; refine st_ne (by decide) ?_; rw [hb1.out]; exact st_eq (by rw [hs0.out]; decide)
  exact h_.out b2 ⟨n2, m2, q0, q1⟩
theorem late11 (X : Cx p a0 w Q ga ad i n c) (H : Ne p a0 w u (some g) (some h) a W) : wpAnyH Try.prog .any ops Q (fun W => Below w.heap.size w W) (F (some g) (some h) + 2) (L 1 (some g).isSome (some h).isSome true) a W := by
  obtain ⟨z3, j3⟩ := H.n.e2 (Nat.le_refl _)
  obtain ⟨w2, w3, w4, w5⟩ := X.ok.o3 _ _ j3
  obtain ⟨z6, b6, l6⟩ := H.n.e6 _ rfl
  obtain ⟨z7, b7, l7⟩ := H.n.e7 _ rfl
  refine wpAnyH_all (rs := [11]) (by kernel_rfl) (by simp) ?_
  intro i hi; rw [List.mem_singleton.1 hi]
  refine run11 z6 H.q0 b6 w2 w3 w4 ?_
  obtain ⟨d1, c6, c7, i4⟩ := five_told X.ok H.n.d l6 b6 b7 j3
  refine ⟨d1, ?_⟩
  refine wpAnyH_all (rs := [12]) (by kernel_rfl) (by simp) ?_
  intro i hi; rw [List.mem_singleton.1 hi]
  refine run12 z7 H.q1 c7 w5 ?_
  obtain ⟨d2, y6, y7, i6⟩ := two_told X.ok d1 l7 c6 c7 i4
  refine ⟨d2, ?_⟩
  refine wpAnyH_done (by kernel_rfl) ?_ _
  have e := Fa.eqn D H.n.fa (fun d hd => by rw [X.sz]; revert d; decide)
  simp only [D, List.foldr_cons, List.foldr_nil] at e
  rw [z6, z7] at e
  rw [e]
  exact X.hq (fun k => a.tmps[k]?.getD undef) u g h _ d2 i6 l6 l7 y6 y7
theorem late01 (X : Cx p a0 w Q ga ad i n c) (H : Ne p a0 w u (none : Option Nat) (some h) a W) : wpAnyH Try.prog .any ops Q (fun W => Below w.heap.size w W) (F (none : Option Nat) (some h) + 2) (L 1 (none : Option Nat).isSome (some h).isSome true) a W := by
  refine wpAnyH_all (rs := [9]) (by kernel_rfl) (by simp) ?_
  intro i hi
  simp only [List.mem_cons, List.not_mem_nil, or_false] at hi
  rcases hi with rfl
  · exact run9 ⟨(H.a6 X).n.d, late11 X (H.a6 X)⟩
theorem late10 (X : Cx p a0 w Q ga ad i n c) (H : Ne p a0 w u (some g) (none : Option Nat) a W) : wpAnyH Try.prog .any ops Q (fun W => Below w.heap.size w W) (F (some g) (none : Option Nat) + 2) (L 1 (some g).isSome (none : Option Nat).isSome true) a W := by
  refine wpAnyH_all (rs := [10]) (by kernel_rfl) (by simp) ?_
  intro i hi
  simp only [List.mem_cons, List.not_mem_nil, or_false] at hi
  rcases hi with rfl
  · exact run10 ⟨(H.a7 X).n.d, late11 X (H.a7 X)⟩
theorem late00 (X : Cx p a0 w Q ga ad i n c) (H : Ne p a0 w u (none : Option Nat) (none : Option Nat) a W) : wpAnyH Try.prog .any ops Q (fun W => Below w.heap.size w W) (F (none : Option Nat) (none : Option Nat) + 2) (L 1 (none : Option Nat).isSome (none : Option Nat).isSome true) a W := by
  refine wpAnyH_all (rs := [9, 10]) (by kernel_rfl) (by simp) ?_
  intro i hi
  simp only [List.mem_cons, List.not_mem_nil, or_false] at hi
  rcases hi with rfl | rfl
  · exact run9 ⟨(H.a6 X).n.d, late10 X (H.a6 X)⟩
  · exact run10 ⟨(H.a7 X).n.d, late01 X (H.a7 X)⟩
theorem node11 (X : Cx p a0 w Q ga ad i n c) (H : Nd p a0 w u 0 (some g) (some h) a W) : wpAnyH Try.prog .any ops Q (fun W => Below w.heap.size w W) (F (some g) (some h) + 6) (L 0 (some g).isSome (some h).isSome false) a W := by
  refine wpAnyH_all (rs := [5]) (by kernel_rfl) (by simp) ?_
  intro i hi
  simp only [List.mem_cons, List.not_mem_nil, or_false] at hi
  rcases hi with rfl
  · exact run5 (R := fun v' W' => ∃ u, v' = p.U u ∧ p.J u W' ∧ Below W.heap.size W W') H.ea H.eb ((X.c2 W H.d).mono (fun e W' he => by obtain ⟨u, he, hj, hb⟩ := he; exact ⟨_, he, u, rfl, hj, hb⟩)) (fun v' W' hr => by obtain ⟨u, rfl, hj, hb⟩ := hr; exact ⟨(H.c2 X hb hj).d, takes X (H.c2 X hb hj) (fun a2 h2 => late11 X h2)⟩)
theorem node01 (X : Cx p a0 w Q ga ad i n c) (H : Nd p a0 w u 0 (none : Option Nat) (some h) a W) : wpAnyH Try.prog .any ops Q (fun W => Below w.heap.size w W) (F (none : Option Nat) (some h) + 6) (L 0 (none : Option Nat).isSome (some h).isSome false) a W := by
  refine wpAnyH_all (rs := [5, 9]) (by kernel_rfl) (by simp) ?_
  intro i hi
  simp only [List.mem_cons, List.not_mem_nil, or_false] at hi
  rcases hi with rfl | rfl
  · exact run5 (R := fun v' W' => ∃ u, v' = p.U u ∧ p.J u W' ∧ Below W.heap.size W W') H.ea H.eb ((X.c2 W H.d).mono (fun e W' he => by obtain ⟨u, he, hj, hb⟩ := he; exact ⟨_, he, u, rfl, hj, hb⟩)) (fun v' W' hr => by obtain ⟨u, rfl, hj, hb⟩ := hr; exact ⟨(H.c2 X hb hj).d, takes X (H.c2 X hb hj) (fun a2 h2 => late01 X h2)⟩)
  · exact run9 ⟨(H.a6 X).d, node11 X (H.a6 X)⟩
theorem node10 (X : Cx p a0 w Q ga ad i n c) (H : Nd p a0 w u 0 (some g) (none : Option Nat) a W) : wpAnyH Try.prog .any ops Q (fun W => Below w.heap.size w W) (F (some g) (none : Option Nat) + 6) (L 0 (some g).isSome (none : Option Nat).isSome false) a W := by
  refine wpAnyH_all (rs := [5, 10]) (by kernel_rfl) (by simp) ?_
  intro i hi
  simp only [List.mem_cons, List.not_mem_nil, or_false] at hi
  rcases hi with rfl | rfl
  · exact run5 (R := fun v' W' => ∃ u, v' = p.U u ∧ p.J u W' ∧ Below W.heap.size W W') H.ea H.eb ((X.c2 W H.d).mono (fun e W' he => by obtain ⟨u, he, hj, hb⟩ := he; exact ⟨_, he, u, rfl, hj, hb⟩)) (fun v' W' hr => by obtain ⟨u, rfl, hj, hb⟩ := hr; exact ⟨(H.c2 X hb hj).d, takes X (H.c2 X hb hj) (fun a2 h2 => late10 X h2)⟩)
  · exact run10 ⟨(H.a7 X).d, node11 X (H.a7 X)⟩
theorem node00 (X : Cx p a0 w Q ga ad i n c) (H : Nd p a0 w u 0 (none : Option Nat) (none : Option Nat) a W) : wpAnyH Try.prog .any ops Q (fun W => Below w.heap.size w W) (F (none : Option Nat) (none : Option Nat) + 6) (L 0 (none : Option Nat).isSome (none : Option Nat).isSome false) a W := by
  refine wpAnyH_all (rs := [5, 9, 10]) (by kernel_rfl) (by simp) ?_
  intro i hi
  simp only [List.mem_cons, List.not_mem_nil, or_false] at hi
  rcases hi with rfl | rfl | rfl
  · exact run5 (R := fun v' W' => ∃ u, v' = p.U u ∧ p.J u W' ∧ Below W.heap.size W W') H.ea H.eb ((X.c2 W H.d).mono (fun e W' he => by obtain ⟨u, he, hj, hb⟩ := he; exact ⟨_, he, u, rfl, hj, hb⟩)) (fun v' W' hr => by obtain ⟨u, rfl, hj, hb⟩ := hr; exact ⟨(H.c2 X hb hj).d, takes X (H.c2 X hb hj) (fun a2 h2 => late00 X h2)⟩)
  · exact run9 ⟨(H.a6 X).d, node10 X (H.a6 X)⟩
  · exact run10 ⟨(H.a7 X).d, node01 X (H.a7 X)⟩
/-- The region. -/
theorem whole (X : Cx p a0 w Q ga ad i n c) : (Code.region 12 ops true).wp Try.prog Q a0 w := by
  refine wp_region_held_drew (S := (fun W => Below w.heap.size w W)) (by kernel_rfl) (below_drew (Below.refl _ _)) (fun d0 => ?_)
  refine wpAnyH_take (i := 0) (oi := o0) (v := (p.A)) rfl (by kernel_rfl) (by kernel_rfl) (by kernel_rfl) (fun c a w h => X.hp c a 41 _ w h) (Or.inl ⟨by rfl, fun W2 h2 => by have hu := Try.underlying31; have h0 := X.pa; obtain ⟨h1, h3, h4, h5, h6⟩ := X.ya W2 h2; unfold o0 Dt.A; go_simp⟩) d0 ?_
  obtain ⟨t0, ht0⟩ : ∃ t, t = st a0 41 (p.A) := ⟨_, rfl⟩
  rw [show (Act.put a0 o0.dst (p.A)) = t0 by rw [ht0]; rfl]; have hu := Aside0.mk ht0; clear ht0; have ht0 := hu; clear hu
  have hz0 : Aside0 (t0.tmps.size = 57) := ⟨by rw [ht0.out]; exact Array.size_setIfInBounds.trans X.sz⟩
  have fa0 : Fa D a0 t0 := by rw [ht0.out]; exact Fa.put (Fa.refl D a0) (by decide) _
  have ka : at_ t0 41 p.A := by rw [ht0.out]; exact st_eq (by rw [X.sz]; decide)
  have kb : at_ t0 1 (.slice (some ad) n c) := by rw [ht0.out]; exact st_ne (by decide) X.pb
  have kc : at_ t0 10 (.int .i64 (i : Int)) := by rw [ht0.out]; exact st_ne (by decide) X.pc
  refine wpAnyH_take (i := 1) (oi := o1) (v := (.slice (some ad) n c)) rfl (by kernel_rfl) (by kernel_rfl) (by kernel_rfl) (fun c a w h => X.hp c a 42 _ w h) (Or.inl ⟨by rfl, fun W2 h2 => by have h0 := kb; unfold o1; go_simp⟩) d0 ?_
  obtain ⟨t1, ht1⟩ : ∃ t, t = st t0 42 (.slice (some ad) n c) := ⟨_, rfl⟩
  rw [show (Act.put t0 o1.dst (.slice (some ad) n c)) = t1 by rw [ht1]; rfl]; have hu := Aside0.mk ht1; clear ht1; have ht1 := hu; clear hu
  have hz1 : Aside0 (t1.tmps.size = 57) := ⟨by rw [ht1.out]; exact Array.size_setIfInBounds.trans hz0.out⟩
  have fa1 : Fa D a0 t1 := by rw [ht1.out]; exact Fa.put (fa0) (by decide) _
  have m0 : at_ t1 42 (.slice (some ad) n c) := by rw [ht1.out]; exact st_eq (by rw [hz0.out]; decide)
  replace ka : at_ t1 41 p.A := by rw [ht1.out]; exact st_ne (by decide) ka
  replace kc : at_ t1 10 (.int .i64 (i : Int)) := by rw [ht1.out]; exact st_ne (by decide) kc
  refine wpAnyH_take (i := 2) (oi := o2) (v := (.int .i64 (i : Int))) rfl (by kernel_rfl) (by kernel_rfl) (by kernel_rfl) (fun c a w h => X.hp c a 43 _ w h) (Or.inl ⟨by rfl, fun W2 h2 => by have h0 := kc; unfold o2; go_simp⟩) d0 ?_
  obtain ⟨t2, ht2⟩ : ∃ t, t = st t1 43 (.int .i64 (i : Int)) := ⟨_, rfl⟩
  rw [show (Act.put t1 o2.dst (.int .i64 (i : Int))) = t2 by rw [ht2]; rfl]; have hu := Aside0.mk ht2; clear ht2; have ht2 := hu; clear hu
  have hz2 : Aside0 (t2.tmps.size = 57) := ⟨by rw [ht2.out]; exact Array.size_setIfInBounds.trans hz1.out⟩
  have fa2 : Fa D a0 t2 := by rw [ht2.out]; exact Fa.put (fa1) (by decide) _
  replace m0 : at_ t2 42 (.slice (some ad) n c) := by rw [ht2.out]; exact st_ne (by decide) m0
  have m1 : at_ t2 43 (.int .i64 (i : Int)) := by rw [ht2.out]; exact st_eq (by rw [hz1.out]; decide)
  replace ka : at_ t2 41 p.A := by rw [ht2.out]; exact st_ne (by decide) ka
  refine wpAnyH_take (i := 3) (oi := o3) (v := (.pointer (some (ad.add (i * 2))))) rfl (by kernel_rfl) (by kernel_rfl) (by kernel_rfl) (fun c a w h => X.hp c a 44 _ w h) (Or.inl ⟨by rfl, fun W2 h2 => by have hu := Try.underlying49; have h0 := m0; have h1 := m1; have h2_ := X.i0; have h3 := X.i1; unfold o3; go_simp⟩) d0 ?_
  obtain ⟨t3, ht3⟩ : ∃ t, t = st t2 44 (.pointer (some (ad.add (i * 2)))) := ⟨_, rfl⟩
  rw [show (Act.put t2 o3.dst (.pointer (some (ad.add (i * 2))))) = t3 by rw [ht3]; rfl]; have hu := Aside0.mk ht3; clear ht3; have ht3 := hu; clear hu
  have hz3 : Aside0 (t3.tmps.size = 57) := ⟨by rw [ht3.out]; exact Array.size_setIfInBounds.trans hz2.out⟩
  have fa3 : Fa D a0 t3 := by rw [ht3.out]; exact Fa.put (fa2) (by decide) _
  have m2 : at_ t3 44 (.pointer (some (ad.add (i * 2)))) := by rw [ht3.out]; exact st_eq (by rw [hz2.out]; decide)
  replace ka : at_ t3 41 p.A := by rw [ht3.out]; exact st_ne (by decide) ka
  refine wpAnyH_take (i := 4) (oi := o4) (v := (p.B)) rfl (by kernel_rfl) (by kernel_rfl) (by kernel_rfl) (fun c a w h => X.hp c a 45 _ w h) (Or.inl ⟨by rfl, fun W2 h2 => by have hu := Try.underlying37; have h0 := m2; obtain ⟨h1, h3⟩ := X.yb W2 h2; unfold o4 Dt.B; go_simp⟩) d0 ?_
  obtain ⟨t4, ht4⟩ : ∃ t, t = st t3 45 (p.B) := ⟨_, rfl⟩
  rw [show (Act.put t3 o4.dst (p.B)) = t4 by rw [ht4]; rfl]; have hu := Aside0.mk ht4; clear ht4; have ht4 := hu; clear hu
  have hz4 : Aside0 (t4.tmps.size = 57) := ⟨by rw [ht4.out]; exact Array.size_setIfInBounds.trans hz3.out⟩
  have fa4 : Fa D a0 t4 := by rw [ht4.out]; exact Fa.put (fa3) (by decide) _
  replace ka : at_ t4 41 p.A := by rw [ht4.out]; exact st_ne (by decide) ka
  have kd : at_ t4 45 p.B := by rw [ht4.out]; exact st_eq (by rw [hz3.out]; decide)
  have H : Nd p a0 w ⟨undef, undef, undef, undef⟩ 0 none none t4 w.drew := ⟨fa4, d0, ka, kd, fun h => absurd h (by decide), fun g hg => absurd hg (by simp), fun g hg => absurd hg (by simp)⟩
  exact node00 X H
end
end Go.Proofs.Ytcnkacbgcmnokaa.XR.Regc
/- What a law's marks are, in a list of replies whose rows all lie apart: walks by hand. -/
namespace Go.Proofs.Ytcnkacbgcmnokaa.XR.MX
open Go Go.RowKit Go.Proofs.YtcnkacbgcmnokaaW.PrintWords Go.Proofs.YtcnkacbgcmnokaaW.PrintLast Go.Proofs.YtcnkacbgcmnokaaW.PrintMore
set_option linter.unusedVariables false
set_option linter.unusedSimpArgs false
def ints (a : Int) (n : Nat) : List Int := (List.range n).map (fun (j : Nat) => a + (j : Int))
theorem ints_len (a : Int) (n : Nat) : (ints a n).length = n := by simp [ints]
/-- A list whose front is told anew, a place more. -/
theorem front {α : Type} (g : Nat → α) (xs : List α) (i : Nat) (h : i < xs.length) : ((List.range i).map g ++ xs.drop i).set i (g i) = (List.range (i + 1)).map g ++ xs.drop (i + 1) := by
  rw [List.range_succ, List.map_append, List.append_assoc, List.set_append_right _ _ (by simp)]
  have hl : ((List.range i).map g).length = i := by simp
  rw [hl, Nat.sub_self, List.drop_eq_getElem_cons h]
  rfl
theorem front_get {α : Type} (g : Nat → α) (xs : List α) (i : Nat) (z : α) : ((List.range i).map g ++ xs.drop i).getD i z = xs.getD i z := by
  simp [List.getD_eq_getElem?_getD, List.getElem?_append_right]
theorem front_all {α : Type} (g : Nat → α) (xs : List α) : (List.range xs.length).map g ++ xs.drop xs.length = (List.range xs.length).map g := by simp
theorem front_len {α : Type} (g : Nat → α) (xs : List α) (i : Nat) (h : i ≤ xs.length) : ((List.range i).map g ++ xs.drop i).length = xs.length := by simp; omega
theorem kept_trans {w1 w2 w3 : World} {S : Nat → Prop} (h : Kept w1 w2 S) (k : Kept w2 w3 S) : Kept w1 w3 S :=
  ⟨Nat.le_trans h.1 k.1, fun i hi hn => (k.2 i (Nat.lt_of_lt_of_le hi h.1) hn).trans (h.2 i hi hn)⟩
theorem kept_set (w : World) (g j : Nat) (v : Value) (S : Nat → Prop) (h : S g) : Kept w (w.setCell ⟨g, j, none⟩ v) S :=
  ⟨by simp [World.setCell], fun i _ hn => Below.heap_setCell w ⟨g, j, none⟩ v i (fun e => hn (by rw [e]; exact h))⟩
theorem below_set0 {base g j : Nat} (w : World) (v : Value) (h : base ≤ g) : Below base w (w.setCell ⟨g, j, none⟩ v) := (Below.refl base w).setCell (p := ⟨g, j, none⟩) h v
set_option maxHeartbeats 2000000 in
theorem mi (base : Nat) (ok : Nat → Prop) (v : Value) (xs : List Int) (a : Int) (w : World) (hr : (Kd.int .i64).R 3 w base ok v xs) (h0 : 0 ≤ a) (h1 : a + (xs.length : Int) ≤ 4611686018427387904) (hlo : base ≤ w.heap.size) :
    Calls Try.prog 37 #[v, .int .i64 a] w fun e w' => e = .returned (.int .i64 (a + (xs.length : Int))) ∧ (Kd.int .i64).R 3 w' base ok v (ints a xs.length) ∧ Below base w w' ∧ Kept w w' (fun k => some k = v.ownBlock) := by
  obtain ⟨A, c, rfl⟩ := Kd.R_slice hr
  obtain ⟨n, hn⟩ : ∃ n, n = xs.length := ⟨_, rfl⟩
  rw [← hn] at hr h1 ⊢
  have HN := Aside0.mk hn
  have HR := Aside0.mk hr
  have HL := Aside0.mk hlo
  clear hr hn hlo
  go_enter Try.func37, Try.ntmps37
  go_wp2
  go_loopg [1, 5] n (fun gg s1 s5 wr => ∃ i : Nat, s1 = .int .i64 (a + (i : Int)) ∧ s5 = .int .i64 (i : Int) ∧ Aside0 (i ≤ n ∧ n ≤ i + gg) ∧ Aside0 ((Kd.int .i64).R 3 wr base ok (.slice A n c) (ints a i ++ xs.drop i)) ∧ Aside0 (Below base w wr) ∧ Aside0 (Kept w wr (fun k => some k = (Value.slice A n c).ownBlock)))
  case atStart => exact ⟨0, by simp, rfl, ⟨by omega⟩, ⟨by simpa [ints] using HR.out⟩, ⟨Below.refl _ _⟩, ⟨Kept.refl _ _⟩⟩
  case round =>
    clear HR
    obtain ⟨i, rfl, rfl, HI, HA, HB, HK⟩ := hrel
    by_cases hin : i < n
    · have c1 : decide ((i : Int) < (n : Int)) = true := decide_eq_true (by omega)
      cases A with
      | none =>
        exfalso
        rcases HA.out.2.choose_spec.1.2 with ⟨e, hz⟩ | ⟨g, cap, cur, e, _⟩
        · injection e with e1 e2 e3; omega
        · cases e
      | some ad =>
      obtain ⟨g, rfl⟩ := Kd.R_head HA.out
      obtain ⟨cs, hcl, hM, hcc, hfr⟩ := Kd.R_elem HA.out 0 (i : Int) (by omega) (by omega)
      obtain ⟨sx, hsx⟩ : ∃ sx, sx = (ints a i ++ xs.drop i).getD (i : Int).toNat 0 := ⟨_, rfl⟩
      rw [← hsx] at hM
      have hM' : cs = [.int .i64 sx] := hM
      subst hM'
      have hz0 : wr.cell? ⟨g, i, none⟩ = some (.int .i64 sx) := by
        have := hcc 0 _ rfl
        simpa [show (Kd.int .i64).sz = 1 from rfl] using this
      have hf0 : wr.frozen? ⟨g, i, none⟩ = false := by
        have := hfr 0
        simpa [show (Kd.int .i64).sz = 1 from rfl] using this
      clear hcl hM hcc hfr
      clear hsx
      have hlt : (⟨g, i, none⟩ : Addr).block < wr.heap.size := Kd.R_lt HA.out g (by simp [Value.ownBlock])
      have hbi := Kd.R_base HA.out g (by simp [Value.ownBlock])
      have p1 : (0 : Int) ≤ (i : Int) := by omega
      have p2 : (i : Int) < (n : Int) := by omega
      have hw1 : wrap64 (a + (i : Int) + 1) = a + ((i + 1 : Nat) : Int) := by unfold wrap64; omega
      have hw2 : wrap64 ((i : Int) + 1) = ((i + 1 : Nat) : Int) := by unfold wrap64; omega
      go_wp2
      go_roundg (gk - 1)
      case measure => have := HI.out; omega
      case rel =>
        have hput := Kd.R_putn HA.out (i : Int) (a + (i : Int))
        rw [Int.toNat_natCast, show ints a i = (List.range i).map (fun (j : Nat) => a + (j : Int)) from rfl, front (fun (j : Nat) => a + (j : Int)) xs i (by have := HN.out; omega)] at hput
        exact ⟨i + 1, by first | rfl | (rw [hw1]; done) | (congr 1; push_cast; omega), by first | rfl | (rw [hw2]; done) | (congr 1; omega), ⟨by have := HI.out; omega⟩, ⟨hput⟩,
          ⟨HB.out.trans (below_set0 _ _ hbi)⟩, ⟨kept_trans HK.out (kept_set _ _ _ _ _ (by simp [Value.ownBlock]))⟩⟩
    · have c1 : decide ((i : Int) < (n : Int)) = false := decide_eq_false (by omega)
      have hni : i = n := by have := HI.out; omega
      subst hni
      go_wp2
      go_ret
      refine ⟨rfl, ?_, HB.out, HK.out⟩
      have h := HA.out
      rw [HN.out] at h ⊢
      rw [show ints a xs.length = (List.range xs.length).map (fun (j : Nat) => a + (j : Int)) from rfl, front_all] at h
      exact h
/-- A reply marked from t on. -/
def one (t : Int) (x : S33) : S33 := ⟨t, ints (t + 1) x.f1.length⟩
def tot (F : Nat → Nat) : Nat → Nat
  | 0 => 0
  | i + 1 => tot F i + F i
theorem tot_le (F : Nat → Nat) (i j : Nat) (h : i ≤ j) : tot F i ≤ tot F j := by
  induction h with
  | refl => exact Nat.le_refl _
  | step _ ih => exact Nat.le_trans ih (Nat.le_add_right _ _)
def F (xs : List S33) (i : Nat) : Nat := 1 + (xs.getD i z33).f1.length
def at_ (a : Int) (xs : List S33) (i : Nat) : Int := a + ((tot (F xs) i : Nat) : Int)
def mk (a : Int) (xs : List S33) : List S33 := (List.range xs.length).map (fun i => one (at_ a xs i) (xs.getD i z33))
theorem mk_len (a : Int) (xs : List S33) : (mk a xs).length = xs.length := by simp [mk]
theorem setCells_one (w : World) (g o : Nat) (v : Value) : w.setCells g o [v] = w.setCell ⟨g, o, none⟩ v := rfl
theorem wr1 (T : Int) (h0 : 0 ≤ T) (h1 : T ≤ 4611686018427387904) : wrap64 (T + 1) = T + 1 := by unfold wrap64; omega
theorem wr2 (i n : Nat) (h0 : i < n) (h1 : n ≤ 1099511627776) : wrap64 ((i : Int) + 1) = ((i + 1 : Nat) : Int) := by unfold wrap64; omega
/-- Element i lent out: its own row, and the row about it. -/
structure Lent (base : Nat) (ok : Nat → Prop) (n c g i : Nat) (ys : List S33) (oki : Nat → Prop) (v1 : Value) (w : World) (b : Int) (l1 : List Int) : Prop where
  hin : i < n
  hb : base ≤ g
  q0 : ∀ k, oki k → ok k ∧ k ≠ g
  h : Kd.H k33 33 w base ok (.slice (some ⟨g, 0, none⟩) n c) ys (i : Int) oki [.int .i64 b, v1]
  r1 : (Kd.int .i64).R 3 w base oki v1 l1
section
variable {base n c g i : Nat} {ok oki : Nat → Prop} {ys : List S33} {v1 : Value} {w w' : World} {b : Int} {l1 : List Int}
theorem lend {A : Option Addr} (h : Kd.S k33 33 w base ok (.slice A n c) ys) (i : Nat) (hi : i < n) :
    ∃ g oki v1, A = some ⟨g, 0, none⟩ ∧ Lent base ok n c g i ys oki v1 w (ys.getD i z33).f0 (ys.getD i z33).f1 := by
  have hn := (Kd.S_reads' h).1
  obtain ⟨g, cap, e, hbg, hgl, _⟩ := Kd.S_form h (by omega)
  injection e with e1 e2 e3
  subst e1
  obtain ⟨oki, cs, hcl, hM, hcc, hfr, hoki, hH⟩ := Kd.S_elem h z33 (i : Int) (by omega) (by omega)
  rw [Int.toNat_natCast] at hM
  obtain ⟨v1, rfl, r1⟩ := k33_openM hM
  exact ⟨g, oki, v1, rfl, ⟨hi, hbg, hoki, hH, r1⟩⟩
theorem k33_sz : k33.sz = 2 := rfl
theorem Lent.cells (L : Lent base ok n c g i ys oki v1 w b l1) : w.cell? ⟨g, i * 2, none⟩ = some (.int .i64 b) ∧ w.cell? ⟨g, i * 2 + 1, none⟩ = some v1 ∧ w.frozen? ⟨g, i * 2, none⟩ = false := by
  have hi := L.hin
  obtain ⟨hc, hf⟩ := Kd.H_at L.h (by omega) (by omega)
  rw [Int.toNat_natCast, k33_sz] at hc hf
  exact ⟨hc 0 _ rfl, hc 1 _ rfl, hf 0⟩
theorem Lent.code (L : Lent base ok n c g i ys oki v1 w b l1) (x : Int) : Lent base ok n c g i ys oki v1 (w.setCell ⟨g, i * 2, none⟩ (.int .i64 x)) x l1 := by
  have hi := L.hin
  obtain ⟨h1, _⟩ := Kd.H_seg L.h (by omega) (by omega) (seg := [.int .i64 x]) (j := 0) (by show 0 + 1 ≤ 2; decide) (by intro q hq; rw [List.mem_singleton.1 hq]; rfl)
  rw [Int.toNat_natCast, k33_sz, setCells_one] at h1
  exact ⟨hi, L.hb, L.q0, h1, Kd.R_move L.r1 (fun k hk => Below.heap_setCell w ⟨g, i * 2, none⟩ _ k (L.q0 k hk).2)⟩
theorem Lent.pages (L : Lent base ok n c g i ys oki v1 w b l1) {l : List Int} (hk : Kept w w' (fun k => some k = v1.ownBlock)) (hr : (Kd.int .i64).R 3 w' base oki v1 l) : Lent base ok n c g i ys oki v1 w' b l := by
  have ho : ∀ k, ¬ oki k → k < w.heap.size → w'.heap[k]? = w.heap[k]? := fun k hn hl => hk.2 k hl (fun e => hn (L.r1.1 k e.symm))
  exact ⟨L.hin, L.hb, L.q0, Kd.H_step L.h (fun k _ hn hl => ho k hn hl), hr⟩
theorem Lent.back (L : Lent base ok n c g i ys oki v1 w b l1) : Kd.S k33 33 w base ok (.slice (some ⟨g, 0, none⟩) n c) (ys.set i ⟨b, l1⟩) := by
  have h := Kd.H_back L.h (k33_mkM w base oki ⟨b, l1⟩ L.r1) (fun _ hk => hk)
  rw [Int.toNat_natCast] at h
  exact h
end
/-- What a round leaves. -/
structure Left (base : Nat) (ok : Nat → Prop) (n c g : Nat) (zs : List S33) (w w' : World) : Prop where
  s : Kd.S k33 33 w' base ok (.slice (some ⟨g, 0, none⟩) n c) zs
  b : Below base w w'
  k : Kept w w' ok
/-- A round's call. -/
theorem steps {A : Option Addr} {base n c : Nat} {ok : Nat → Prop} {ys : List S33} {w : World} (h : Kd.S k33 33 w base ok (.slice A n c) ys) (hlo : base ≤ w.heap.size) (hog : ∀ g, A = some ⟨g, 0, none⟩ → ok g) (i : Nat) (hi : i < n) (T : Int) (x : S33) (hx : x = ys.getD i z33) (h0 : 0 ≤ T) (h1 : T + 1 + (x.f1.length : Int) ≤ 4611686018427387904) :
    ∃ (g : Nat) (AK : Option Addr) (cK : Nat), A = some ⟨g, 0, none⟩ ∧
      w.cell? ⟨g, i * 2, none⟩ = some (.int .i64 x.f0) ∧ w.cell? ⟨g, i * 2 + 1, none⟩ = some (.slice AK x.f1.length cK) ∧ w.frozen? ⟨g, i * 2, none⟩ = false ∧
      (Calls Try.prog 37 #[.slice AK x.f1.length cK, .int .i64 (T + 1)] (w.setCell ⟨g, i * 2, none⟩ (.int .i64 T)) fun e w2 => e = .returned (.int .i64 (T + 1 + (x.f1.length : Int))) ∧ Left base ok n c g (ys.set i (one T x)) w w2) := by
  obtain ⟨g, oki, v1, rfl, L⟩ := lend h i hi
  rw [← hx] at L
  obtain ⟨AK, cK, rfl⟩ := Kd.R_slice L.r1
  have hgok : ok g := hog g rfl
  refine ⟨g, AK, cK, rfl, L.cells.1, L.cells.2.1, L.cells.2.2, ?_⟩
  have L1 := L.code T
  have B1 := below_set0 (j := i * 2) w (.int .i64 T) L.hb
  have K1 := kept_set w g (i * 2) (.int .i64 T) ok hgok
  refine (mi base oki _ x.f1 (T + 1) _ L1.r1 (by omega) (by omega) (Nat.le_trans hlo B1.size)).mono ?_
  rintro e w2 ⟨rfl, hr, hb, hk⟩
  have L2 := L1.pages hk hr
  exact ⟨rfl, L2.back, B1.trans hb, kept_trans K1 ⟨hk.1, fun k hl hn => hk.2 k hl (fun e => hn (L.q0 k (L.r1.1 k e.symm)).1)⟩⟩
set_option maxHeartbeats 4000000 in
theorem mr (base : Nat) (ok : Nat → Prop) (v : Value) (xs : List S33) (a : Int) (w : World) (hr : Kd.S k33 33 w base ok v xs) (h0 : 0 ≤ a) (h1 : at_ a xs xs.length ≤ 4611686018427387904) (h2 : xs.length ≤ 1099511627776) (hlo : base ≤ w.heap.size) :
    Calls Try.prog 23 #[v, .int .i64 a] w fun e w' => e = .returned (.int .i64 (at_ a xs xs.length)) ∧ Kd.S k33 33 w' base ok v (mk a xs) ∧ Below base w w' ∧ Kept w w' ok := by
  have hu33 := Try.underlying33
  obtain ⟨A, c, rfl⟩ := Kd.S_slice hr
  obtain ⟨n, hn⟩ : ∃ n, n = xs.length := ⟨_, rfl⟩
  rw [← hn] at hr h1 h2 ⊢
  have HN := Aside0.mk hn
  have HR := Aside0.mk hr
  have HL := Aside0.mk hlo
  have H1 := Aside0.mk h1
  clear hr hn hlo h1
  go_enter Try.func23, Try.ntmps23
  go_wp2
  go_loopg [1, 5] n (fun gg s1 s5 wr => ∃ (i : Nat) (ys : List S33), s1 = .int .i64 (at_ a xs i) ∧ s5 = .int .i64 (i : Int) ∧ Aside0 (i ≤ n ∧ n ≤ i + gg) ∧ Aside0 (ys = (List.range i).map (fun i => one (at_ a xs i) (xs.getD i z33)) ++ xs.drop i) ∧ Aside0 (Kd.S k33 33 wr base ok (.slice A n c) ys) ∧ Aside0 (Below base w wr) ∧ Aside0 (Kept w wr ok))
  case atStart => exact ⟨0, xs, by simp [at_, tot], rfl, ⟨by omega⟩, ⟨by simp⟩, HR, ⟨Below.refl _ _⟩, ⟨Kept.refl _ _⟩⟩
  case round =>
    clear HR
    obtain ⟨i, ys, rfl, rfl, HI, HY, HA, HB, HK⟩ := hrel
    by_cases hin : i < n
    · have c1 : decide ((i : Int) < (n : Int)) = true := decide_eq_true (by omega)
      obtain ⟨x, hx⟩ : ∃ x, x = ys.getD i z33 := ⟨_, rfl⟩
      have hx2 : x = xs.getD i z33 := by rw [hx, HY.out, front_get]
      have hstep : at_ a xs (i + 1) = at_ a xs i + 1 + (x.f1.length : Int) := by
        have : F xs i = 1 + x.f1.length := by rw [hx2]; rfl
        unfold at_
        rw [tot, this]
        omega
      have hle : at_ a xs (i + 1) ≤ at_ a xs n := by
        unfold at_
        have := tot_le (F xs) (i + 1) n (by omega)
        omega
      have hT0 : 0 ≤ at_ a xs i := by unfold at_; omega
      have hbound : at_ a xs i + 1 + (x.f1.length : Int) ≤ 4611686018427387904 := by have := H1.out; omega
      obtain ⟨T, hT⟩ : ∃ T : Int, T = at_ a xs i := ⟨_, rfl⟩
      rw [← hT] at hT0 hbound hstep ⊢
      have hw0 := wr1 T hT0 (by omega)
      have hw2 := wr2 i n hin h2
      obtain ⟨g, AK, cK, rfl, hz0, hz1, hf0, P1⟩ := steps HA.out (Nat.le_trans HL.out HB.out.size) (fun g e => by subst e; exact HA.out.choose_spec.1 g (by simp [Value.ownBlock])) i hin T x hx hT0 hbound
      have HS := Aside0.mk (And.intro hstep (And.intro hT hx2))
      have Q1 := Aside0.mk P1
      have p1 : (0 : Int) ≤ (i : Int) := Int.natCast_nonneg i
      have p2 : (i : Int) < (n : Int) := Int.ofNat_lt.2 hin
      clear P1 hstep hT hx hx2 hle hbound
      go_wp2_with (go_at_call 37; (with_reducible refine Q1.out.mono ?_); rintro e w4 ⟨rfl, hs⟩; have LF := Aside0.mk hs; clear hs Q1)
      go_roundg (gk - 1)
      case measure => have := HI.out; omega
      case rel =>
        obtain ⟨e1, e2, e3⟩ := HS.out
        refine ⟨i + 1, _, by rw [e1], by first | rfl | (rw [hw2]; done), ⟨by have := HI.out; omega⟩, ⟨?_⟩, ⟨LF.out.s⟩, ⟨HB.out.trans LF.out.b⟩, ⟨kept_trans HK.out LF.out.k⟩⟩
        have hf := front (fun i => one (at_ a xs i) (xs.getD i z33)) xs i (by have := HN.out; omega)
        rw [HY.out, e3, e2]
        exact hf
    · have c1 : decide ((i : Int) < (n : Int)) = false := decide_eq_false (by omega)
      have hni : i = n := by have := HI.out; omega
      subst hni
      go_wp2
      go_ret
      refine ⟨rfl, ?_, HB.out, HK.out⟩
      have h := HA.out
      rw [HY.out, HN.out, front_all] at h
      rw [HN.out]
      exact h
end Go.Proofs.Ytcnkacbgcmnokaa.XR.MX
