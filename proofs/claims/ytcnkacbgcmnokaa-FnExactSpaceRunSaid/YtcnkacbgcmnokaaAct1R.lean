/- The program's act, where an epoch is begun: walks. -/
import Derived.Test.YtcnkacbgcmnokaaAct3R
import Derived.Test.YtcnkacbgcmnokaaXR7
import Derived.Test.YtcnkacbgcmnokaaXR6
import Derived.Deep.RegionLaw
namespace Go.Proofs.Ytcnkacbgcmnokaa.XR.Act
open Go Go.RowKit Go.Proofs.YtcnkacbgcmnokaaW.PrintWords Go.Proofs.YtcnkacbgcmnokaaW.PrintLast Go.Proofs.YtcnkacbgcmnokaaW.PrintMore Go.Proofs.Ytcnkacbgcmnokaa.XR Go.Proofs.Ytcnkacbgcmnokaa.XR.Room
set_option linter.unusedVariables false
set_option linter.unusedSimpArgs false
attribute [local go_sem] Go.Proofs.Ytcnkacbgcmnokaa.Xtra.binOp_gtr Go.Proofs.Ytcnkacbgcmnokaa.Xtra.binOp_leq Go.Proofs.Ytcnkacbgcmnokaa.Xtra.binOp_geq
/-- What the free pages are, of a space in hand. -/
theorem freeOf {w W : World} {b gb : Nat} {vn0 vh0 vp0 : Value} {An Ah Ap : Option Addr} {cn ch cp : Nat} {T E : Int} {now : List Int} {held : List S74} {pins : List Int} (s : St w b gb vn0 vh0 vp0 W T E (.slice An now.length cn) (.slice Ah held.length ch) (.slice Ap pins.length cp) now held pins) (k : Nat) (fr : List Int) (hf : impl_Space_free.f k T E now held pins = some fr) :
    Calls Try.prog 59 #[.agg #[.int .i64 T, .int .i64 E, .slice An now.length cn, .slice Ah held.length ch, .slice Ap pins.length cp]] W fun e w' => ∃ v0_ : Value, e = .returned (v0_) ∧ Kd.R (Kd.int .i64) 3 w' W.heap.size (fun _ => True) v0_ fr ∧ Below W.heap.size W w' :=
  impl_Space_free.calls k T E An cn now Ah ch held Ap cp pins fr W (Kd.R_reads' s.o.r.n).2.2 (Kd.R_reads' s.o.r.n).2.1 (Kd.R_reads' s.o.r.h).2.2 (Kd.R_reads' s.o.r.h).2.1 (Kd.R_reads' s.o.r.p).2.2 (Kd.R_reads' s.o.r.p).2.1 hf
set_option maxHeartbeats 4000000 in
set_option maxRecDepth 100000 in
theorem commitRange (k b gb : Nat) (w : World) (T E : Int) (vn vh vp : Value) (now : List Int) (held : List S74) (pins : List Int) (n : Int) (fr : List Int) (hb : b ≤ w.heap.size) (o : Own b gb w T E vn vh vp now held pins) (hf : impl_Space_free.f k T E now held pins = some fr) (h2 : impl_within.f n 0 64 = some false) :
    Calls Try.prog 34 #[.pointer (some ⟨gb, 0, none⟩), .agg #[.int .i64 1, .int .i64 n]] w (Done w b gb vn vh vp T E now held pins 4 []) := by
  obtain ⟨Ap, cp, rfl⟩ := Kd.R_slice o.r.p
  obtain ⟨An, cn, rfl⟩ := Kd.R_slice o.r.n
  obtain ⟨Ah, ch, rfl⟩ := Kd.R_slice o.r.h
  have hu31 := Try.underlying31
  have hu33 := Try.underlying33
  have hu37 := Try.underlying37
  have S0 := Aside0.mk (begin_ 1 n hb o)
  have HF := Aside0.mk hf
  have HW := Aside0.mk h2
  clear h2 o hf
  go_enter Try.func34, Try.ntmps34
  go_upto_region 3 with (fail)
  generalize (w.alloc (.cells #[.int .i64 1, .int .i64 n] 37)).alloc (.cells #[.int .i64 0, .slice none 0 0] 33) = W at S0 ⊢
  generalize w.heap.size + 1 = gr at S0 ⊢
  obtain ⟨hc0, hc1, hc2, hc3, hc4⟩ := cells S0.out.1
  go_upto_region 5 with (first
    | (go_at_call 59; (with_reducible refine (freeOf S0.out.1 k fr HF.out).mono ?_); rintro e w2 ⟨vf, rfl, hr, hB⟩; obtain ⟨Af, cf, ef⟩ := Kd.R_slice hr; subst ef; have S1 := Aside0.mk (S0.out.1.below (Nat.le_trans hb S0.out.1.k.1) hB); have X1 := Aside0.mk (S0.out.2.below hB); clear hr hB; have ha1 := (blk_cell X1.out.a 1).trans (rfl : _ = some (Value.int .i64 n)))
    | (go_at_call 49; (with_reducible refine (impl_within.calls n 0 64 _ _ HW.out).mono ?_); rintro e w3 ⟨rfl, hd⟩; have S2 := Aside0.mk (S1.out.below (Nat.le_trans hb S1.out.k.1) hd.below); have X2 := Aside0.mk (X1.out.below hd.below); clear hd))
  clear hc0 hc1 hc2 hc3 hc4 ha1 S0 S1 X1
  have hf := blk_frozen X2.out.r
  have hz0 := (blk_cell X2.out.r 0).trans (rfl : _ = some (Value.int .i64 0))
  have hz1 := (blk_cell X2.out.r 1).trans (rfl : _ = some (Value.slice none 0 0))
  go_wp2
  refine bodyPost_ret (results_cell_row rfl _ _ gr 33 #[.int .i64 4, .slice none 0 0] (0, 0) _ rfl (reply X2.out.r 4 _) Try.underlying33 rfl (by kernel_rfl)) rfl ?_
  exact fin hb S2.out X2.out 4 _ [] (Kd.R_nil _ _ _ _ _)
set_option maxHeartbeats 4000000 in
set_option maxRecDepth 100000 in
theorem commitFull (k b gb : Nat) (w : World) (T E : Int) (vn vh vp : Value) (now : List Int) (held : List S74) (pins : List Int) (n : Int) (fr : List Int) (hb : b ≤ w.heap.size) (o : Own b gb w T E vn vh vp now held pins) (hf : impl_Space_free.f k T E now held pins = some fr) (h2 : impl_within.f n 0 64 = some true) (h3 : n > (fr.length : Int) ∨ E ≥ 1000000) :
    Calls Try.prog 34 #[.pointer (some ⟨gb, 0, none⟩), .agg #[.int .i64 1, .int .i64 n]] w (Done w b gb vn vh vp T E now held pins 7 []) := by
  obtain ⟨Ap, cp, rfl⟩ := Kd.R_slice o.r.p
  obtain ⟨An, cn, rfl⟩ := Kd.R_slice o.r.n
  obtain ⟨Ah, ch, rfl⟩ := Kd.R_slice o.r.h
  have hu31 := Try.underlying31
  have hu33 := Try.underlying33
  have hu37 := Try.underlying37
  have S0 := Aside0.mk (begin_ 1 n hb o)
  have HF := Aside0.mk hf
  have HW := Aside0.mk h2
  have H3 := Aside0.mk h3
  clear h2 o hf h3
  go_enter Try.func34, Try.ntmps34
  go_upto_region 3 with (fail)
  generalize (w.alloc (.cells #[.int .i64 1, .int .i64 n] 37)).alloc (.cells #[.int .i64 0, .slice none 0 0] 33) = W at S0 ⊢
  generalize w.heap.size + 1 = gr at S0 ⊢
  obtain ⟨hc0, hc1, hc2, hc3, hc4⟩ := cells S0.out.1
  go_upto_region 6 with (first
    | (go_at_call 59; (with_reducible refine (freeOf S0.out.1 k fr HF.out).mono ?_); rintro e w2 ⟨vf, rfl, hr, hB⟩; obtain ⟨Af, cf, ef⟩ := Kd.R_slice hr; subst ef; have S1 := Aside0.mk (S0.out.1.below (Nat.le_trans hb S0.out.1.k.1) hB); have X1 := Aside0.mk (S0.out.2.below hB); clear hr hB; have ha1 := (blk_cell X1.out.a 1).trans (rfl : _ = some (Value.int .i64 n)))
    | (go_at_call 49; (with_reducible refine (impl_within.calls n 0 64 _ _ HW.out).mono ?_); rintro e w3 ⟨rfl, hd⟩; have S2 := Aside0.mk (S1.out.below (Nat.le_trans hb S1.out.k.1) hd.below); have X2 := Aside0.mk (X1.out.below hd.below); clear hd))
  clear hc0 hc1 hc2 hc3 hc4 ha1 S0 S1 X1
  have ha1 := (blk_cell X2.out.a 1).trans (rfl : _ = some (Value.int .i64 n))
  have hc1 := (cells S2.out).2.1
  have hf := blk_frozen X2.out.r
  have hz0 := (blk_cell X2.out.r 0).trans (rfl : _ = some (Value.int .i64 0))
  have hz1 := (blk_cell X2.out.r 1).trans (rfl : _ = some (Value.slice none 0 0))
  by_cases h4 : n > (fr.length : Int)
  · have c4 : decide (n > (fr.length : Int)) = true := decide_eq_true h4
    clear h4
    go_wp2
    refine bodyPost_ret (results_cell_row rfl _ _ gr 33 #[.int .i64 7, .slice none 0 0] (0, 0) _ rfl (reply X2.out.r 7 _) Try.underlying33 rfl (by kernel_rfl)) rfl ?_
    exact fin hb S2.out X2.out 7 _ [] (Kd.R_nil _ _ _ _ _)
  · have c4 : decide (n > (fr.length : Int)) = false := decide_eq_false h4
    have c5 : decide (E ≥ 1000000) = true := decide_eq_true (H3.out.resolve_left h4)
    clear h4
    go_wp2
    refine bodyPost_ret (results_cell_row rfl _ _ gr 33 #[.int .i64 7, .slice none 0 0] (0, 0) _ rfl (reply X2.out.r 7 _) Try.underlying33 rfl (by kernel_rfl)) rfl ?_
    exact fin hb S2.out X2.out 7 _ [] (Kd.R_nil _ _ _ _ _)
end Go.Proofs.Ytcnkacbgcmnokaa.XR.Act
