/- The program's act, where a pin is taken back: walks. -/
import Derived.Test.YtcnkacbgcmnokaaAct2R
import Derived.Test.YtcnkacbgcmnokaaDeliR
import Derived.Test.YtcnkacbgcmnokaaXR6
import Derived.Deep.RegionLaw
namespace Go.Proofs.Ytcnkacbgcmnokaa.XR.Act
open Go Go.RowKit Go.Proofs.YtcnkacbgcmnokaaW.PrintWords Go.Proofs.YtcnkacbgcmnokaaW.PrintLast Go.Proofs.YtcnkacbgcmnokaaW.PrintMore Go.Proofs.Ytcnkacbgcmnokaa.XR Go.Proofs.Ytcnkacbgcmnokaa.XR.Room
set_option linter.unusedVariables false
set_option linter.unusedSimpArgs false
theorem St.then_ {w W W' : World} {b gb : Nat} {vn0 vh0 vp0 vn vh vp vn' vh' vp' : Value} {T E E' : Int} {now now' : List Int} {held held' : List S74} {pins pins' : List Int} (s : St w b gb vn0 vh0 vp0 W T E vn vh vp now held pins) (t : St W b gb vn vh vp W' T E' vn' vh' vp' now' held' pins') : St w b gb vn0 vh0 vp0 W' T E' vn' vh' vp' now' held' pins' :=
  s.go t.o t.d t.k t.mn t.mh t.mp
theorem Bx.st {w W W' : World} {b gb ga gr : Nat} {kind n : Int} {vn0 vh0 vp0 vn vh vp vn' vh' vp' : Value} {T E E' : Int} {now now' : List Int} {held held' : List S74} {pins pins' : List Int} (x : Bx w b gb ga gr kind n W) (s : St w b gb vn0 vh0 vp0 W T E vn vh vp now held pins) (t : St W b gb vn vh vp W' T E' vn' vh' vp' now' held' pins') : Bx w b gb ga gr kind n W' := by
  refine x.kept t.k (fun h => ?_) (fun h => ?_)
  · rcases h with h | h | h
    · exact Nat.lt_irrefl _ (Nat.lt_of_lt_of_le x.lt (Nat.le_trans x.la (Nat.le_of_eq h)))
    · exact Kd.R_ne s.o.r.h x.a (by decide) h
    · exact Kd.R_ne s.o.r.p x.a (by decide) h
  · rcases h with h | h | h
    · exact x.n1 h.symm
    · exact Kd.R_ne s.o.r.h x.r (by decide) h
    · exact Kd.R_ne s.o.r.p x.r (by decide) h
set_option maxHeartbeats 4000000 in
set_option maxRecDepth 100000 in
theorem unpinNone (b gb : Nat) (w : World) (T E : Int) (vn vh vp : Value) (now : List Int) (held : List S74) (pins : List Int) (n : Int) (hb : b ≤ w.heap.size) (o : Own b gb w T E vn vh vp now held pins) (h1 : pins.length ≤ 1048576) (h2 : impl_within.f n 0 ((pins.length : Int) - 1) = some false) :
    Calls Try.prog 34 #[.pointer (some ⟨gb, 0, none⟩), .agg #[.int .i64 3, .int .i64 n]] w (Done w b gb vn vh vp T E now held pins 5 []) := by
  obtain ⟨Ap, cp, rfl⟩ := Kd.R_slice o.r.p
  have hu31 := Try.underlying31
  have hu33 := Try.underlying33
  have hu37 := Try.underlying37
  have S0 := Aside0.mk (begin_ 3 n hb o)
  have hw := wrapsub pins.length h1
  have HW := Aside0.mk h2
  clear h1 h2 o
  go_enter Try.func34, Try.ntmps34
  go_upto_region 24 with (fail)
  generalize (w.alloc (.cells #[.int .i64 3, .int .i64 n] 37)).alloc (.cells #[.int .i64 0, .slice none 0 0] 33) = W at S0 ⊢
  generalize w.heap.size + 1 = gr at S0 ⊢
  have hc4 := (cells S0.out.1).2.2.2.2
  have ha1 := (blk_cell S0.out.2.a 1).trans (rfl : _ = some (Value.int .i64 n))
  go_cut [128] (fun s128 wx => s128 = .bool true ∧ Aside0 (Below W.heap.size W wx))
  case first =>
    go_region_with (go_at_call 49; (try simp only [i64_w, hw]); (with_reducible refine (impl_within.calls n 0 ((pins.length : Int) - 1) _ _ HW.out).mono ?_); rintro e w2 ⟨rfl, hd⟩; have D := Aside0.mk (below_step (w := W) (below_drew (Below.refl _ _)) hd.below); clear hd)
    all_goals (go_wp2_with fail; go_meet; exact ⟨rfl, D⟩)
  case rest =>
    obtain ⟨rfl, DX⟩ := hcut
    have S1 := Aside0.mk (S0.out.1.below (Nat.le_trans hb S0.out.1.k.1) DX.out)
    have X1 := Aside0.mk (S0.out.2.below DX.out)
    have hf := blk_frozen X1.out.r
    have hz0 := (blk_cell X1.out.r 0).trans (rfl : _ = some (Value.int .i64 0))
    have hz1 := (blk_cell X1.out.r 1).trans (rfl : _ = some (Value.slice none 0 0))
    clear S0 hc4 ha1
    go_wp2
    refine bodyPost_ret (results_cell_row rfl _ _ gr 33 #[.int .i64 5, .slice none 0 0] (0, 0) _ rfl (reply X1.out.r 5 _) Try.underlying33 rfl (by kernel_rfl)) rfl ?_
    exact fin hb S1.out X1.out 5 _ [] (Kd.R_nil _ _ _ _ _)
set_option maxHeartbeats 4000000 in
set_option maxRecDepth 100000 in
theorem unpin (b gb : Nat) (w : World) (T E : Int) (vn vh vp : Value) (now : List Int) (held : List S74) (pins : List Int) (i : Nat) (hb : b ≤ w.heap.size) (o : Own b gb w T E vn vh vp now held pins) (h1 : pins.length ≤ 1048576) (h2 : impl_within.f (i : Int) 0 ((pins.length : Int) - 1) = some true) (h3 : i < pins.length) :
    Calls Try.prog 34 #[.pointer (some ⟨gb, 0, none⟩), .agg #[.int .i64 3, .int .i64 (i : Int)]] w (Done w b gb vn vh vp T E now (Rels.left E held (pins.eraseIdx i)) (pins.eraseIdx i) 0 []) := by
  obtain ⟨Ap, cp, rfl⟩ := Kd.R_slice o.r.p
  have hu31 := Try.underlying31
  have hu33 := Try.underlying33
  have hu37 := Try.underlying37
  have S0 := Aside0.mk (begin_ 3 (i : Int) hb o)
  have hw := wrapsub pins.length h1
  have hwi := wrapadd i (by omega)
  have HW := Aside0.mk h2
  have H1 := Aside0.mk h1
  have H3 := Aside0.mk h3
  clear h1 h2 o h3
  go_enter Try.func34, Try.ntmps34
  go_upto_region 24 with (fail)
  generalize (w.alloc (.cells #[.int .i64 3, .int .i64 (i : Int)] 37)).alloc (.cells #[.int .i64 0, .slice none 0 0] 33) = W at S0 ⊢
  generalize w.heap.size + 1 = gr at S0 ⊢
  have hc4 := (cells S0.out.1).2.2.2.2
  have ha1 := (blk_cell S0.out.2.a 1).trans (rfl : _ = some (Value.int .i64 (i : Int)))
  go_cut [128] (fun s128 wx => s128 = .bool false ∧ Aside0 (Below W.heap.size W wx))
  case first =>
    go_region_with (go_at_call 49; (try simp only [i64_w, hw]); (with_reducible refine (impl_within.calls (i : Int) 0 ((pins.length : Int) - 1) _ _ HW.out).mono ?_); rintro e w2 ⟨rfl, hd⟩; have D := Aside0.mk (below_step (w := W) (below_drew (Below.refl _ _)) hd.below); clear hd)
    all_goals (go_wp2_with fail; go_meet; exact ⟨rfl, D⟩)
  case rest =>
    obtain ⟨rfl, DX⟩ := hcut
    have S1 := Aside0.mk (S0.out.1.below (Nat.le_trans hb S0.out.1.k.1) DX.out)
    have X1 := Aside0.mk (S0.out.2.below DX.out)
    clear S0 hc4 ha1 DX
    have hc4 := (cells S1.out).2.2.2.2
    have ha1 := (blk_cell X1.out.a 1).trans (rfl : _ = some (Value.int .i64 (i : Int)))
    go_upto_region 26 with (fail)
    go_cut [] (fun wx => ∃ vp', Aside0 (St w b gb vn vh (.slice Ap pins.length cp) wx T E vn vh vp' now held (pins.eraseIdx i)) ∧ Aside0 (Bx w b gb w.heap.size gr 3 (i : Int) wx))
    case first =>
      go_region_with (go_at_call 63; (try simp only [i64_w, hwi]); (with_reducible refine (Deli.del b Ap cp pins i _ H3.out H1.out ?hb ?hr).mono ?_); (case hb => exact Nat.le_trans hb S1.out.k.1); (case hr => exact (by (with_reducible repeat (first | apply Kd.R_drewN | apply Kd.R_drew)); exact S1.out.o.r.p)); rintro e w4 ⟨rfl, hr, hB, hK⟩; have hbx := (hK.2 gb (blk_lt S1.out.o.box) (Kd.R_ne S1.out.o.r.p S1.out.o.box (by decide))).trans S1.out.o.box; have hz4 := (blk_cell hbx 4).trans (rfl : _ = some (Value.slice Ap pins.length cp)); have hf4 := blk_frozen hbx 4; have AP := Aside0.mk (And.intro hr (And.intro (undrew hB) hK)); clear hr hB hK hbx)
      all_goals (go_wp2_with fail; go_meet; exact ⟨_, ⟨S1.out.toPins AP.out.1 AP.out.2.1 (undrewK AP.out.2.2) (move_cut _ Ap _ _ cp)⟩, ⟨(X1.out.row S1.out.o.r.p (by decide) (by decide) (undrewK AP.out.2.2)).set 4 _⟩⟩)
    case rest =>
      clear hc4 ha1 S1 X1
      obtain ⟨vp', S2, X2⟩ := hcut
      go_wp2_with (go_at_call 62; (with_reducible refine (Rels.rel b gb _ T E vn vh vp' now held (pins.eraseIdx i) ?hb ?ho).mono ?_); (case hb => exact Nat.le_trans hb S2.out.k.1); (case ho => exact S2.out.o); rintro e w6 ⟨rfl, vh', hs⟩; have S3 := Aside0.mk (St.then_ S2.out hs); have X3 := Aside0.mk (X2.out.st S2.out hs); clear hs; have hf := blk_frozen X3.out.r; have hz0 := (blk_cell X3.out.r 0).trans (rfl : _ = some (Value.int .i64 0)); have hz1 := (blk_cell X3.out.r 1).trans (rfl : _ = some (Value.slice none 0 0)))
      refine bodyPost_ret (results_cell_row rfl _ _ gr 33 #[.int .i64 0, .slice none 0 0] (0, 0) _ rfl (reply X3.out.r 0 _) Try.underlying33 rfl (by kernel_rfl)) rfl ?_
      exact fin hb S3.out X3.out 0 _ [] (Kd.R_nil _ _ _ _ _)
end Go.Proofs.Ytcnkacbgcmnokaa.XR.Act
