/- Several texts of the session in one. -/
import Derived.Test.YtcnkacbgcmnokaaAct3A
import Derived.Test.YtcnkacbgcmnokaaXA6
import Derived.Test.YtcnkacbgcmnokaaXA5
import Derived.Deep.RegionLaw
import Derived.Test.YtcnkacbgcmnokaaSorthA
/- The program's act, where an epoch is begun: walks. -/
namespace Go.Proofs.Ytcnkacbgcmnokaa.XA.Act
open Go Go.RowKit Go.Proofs.YtcnkacbgcmnokaaW.PrintWords Go.Proofs.YtcnkacbgcmnokaaW.PrintLast Go.Proofs.YtcnkacbgcmnokaaW.PrintMore Go.Proofs.Ytcnkacbgcmnokaa.XA Go.Proofs.Ytcnkacbgcmnokaa.XA.Room
set_option linter.unusedVariables false
set_option linter.unusedSimpArgs false
attribute [local go_sem] Go.Proofs.Ytcnkacbgcmnokaa.Xtra.binOp_gtr Go.Proofs.Ytcnkacbgcmnokaa.Xtra.binOp_leq Go.Proofs.Ytcnkacbgcmnokaa.Xtra.binOp_geq
/-- What the free pages are, of a space in hand. -/
theorem freeOf {w W : World} {b gb : Nat} {vn0 vh0 vp0 : Value} {An Ah Ap : Option Addr} {cn ch cp : Nat} {T E : Int} {now : List Int} {held : List S74} {pins : List Int} (s : St w b gb vn0 vh0 vp0 W T E (.slice An now.length cn) (.slice Ah held.length ch) (.slice Ap pins.length cp) now held pins) (k : Nat) (fr : List Int) (hf : impl_Space_free.f k T E now held pins = some fr) :
    Calls Try.prog 59 #[.agg #[.int .i64 T, .int .i64 E, .slice An now.length cn, .slice Ah held.length ch, .slice Ap pins.length cp]] W fun e w' => ∃ v0_ : Value, e = .returned (v0_) ∧ Kd.R (Kd.int .i64) 3 w' W.heap.size (fun _ => True) v0_ fr ∧ Below W.heap.size W w' :=
  impl_Space_free.calls k T E An cn now Ah ch held Ap cp pins fr W (Kd.R_reads' s.o.r.n).2.2 (Kd.R_reads' s.o.r.n).2.1 (Kd.R_reads' s.o.r.h).2.2 (Kd.R_reads' s.o.r.h).2.1 (Kd.R_reads' s.o.r.p).2.2 (Kd.R_reads' s.o.r.p).2.1 hf
set_option maxHeartbeats 4000000 in
set_option maxRecDepth 100000 in
theorem commitRange (k b gb : Nat) (w : World) (T E : Int) (vn vh vp : Value) (now : List Int) (held : List S74) (pins : List Int) (n : Int) (fr : List Int) (hb : b ≤ w.heap.size) (o : Own b gb w T E vn vh vp now held pins) (hf : impl_Space_free.f k T E now held pins = some fr) (h2 : impl_within.f n 0 64 = some false) :
    Calls Try.prog 34 #[.pointer (some ⟨gb, 0, none⟩), .agg #[.int .i64 1, .int .i64 n]] w (Done w b gb vn vh vp T E now held pins 4 []) := by
  obtain ⟨Ap, cp, rfl⟩ := Kd.R_slice o.r.p
  obtain ⟨An, cn, rfl⟩ := Kd.R_slice o.r.n
  obtain ⟨Ah, ch, rfl⟩ := Kd.R_slice o.r.h
  have hu31 := Try.underlying31
  have hu33 := Try.underlying33
  have hu37 := Try.underlying37
  have S0 := Aside0.mk (begin_ 1 n hb o)
  have HF := Aside0.mk hf
  have HW := Aside0.mk h2
  clear h2 o hf
  go_enter Try.func34, Try.ntmps34
  go_upto_region 3 with (fail)
  generalize (w.alloc (.cells #[.int .i64 1, .int .i64 n] 37)).alloc (.cells #[.int .i64 0, .slice none 0 0] 33) = W at S0 ⊢
  generalize w.heap.size + 1 = gr at S0 ⊢
  obtain ⟨hc0, hc1, hc2, hc3, hc4⟩ := cells S0.out.1
  go_upto_region 5 with (first
    | (go_at_call 59; (with_reducible refine (freeOf S0.out.1 k fr HF.out).mono ?_); rintro e w2 ⟨vf, rfl, hr, hB⟩; obtain ⟨Af, cf, ef⟩ := Kd.R_slice hr; subst ef; have S1 := Aside0.mk (S0.out.1.below (Nat.le_trans hb S0.out.1.k.1) hB); have X1 := Aside0.mk (S0.out.2.below hB); clear hr hB; have ha1 := (blk_cell X1.out.a 1).trans (rfl : _ = some (Value.int .i64 n)))
    | (go_at_call 49; (with_reducible refine (impl_within.calls n 0 64 _ _ HW.out).mono ?_); rintro e w3 ⟨rfl, hd⟩; have S2 := Aside0.mk (S1.out.below (Nat.le_trans hb S1.out.k.1) hd.below); have X2 := Aside0.mk (X1.out.below hd.below); clear hd))
  clear hc0 hc1 hc2 hc3 hc4 ha1 S0 S1 X1
  have hf := blk_frozen X2.out.r
  have hz0 := (blk_cell X2.out.r 0).trans (rfl : _ = some (Value.int .i64 0))
  have hz1 := (blk_cell X2.out.r 1).trans (rfl : _ = some (Value.slice none 0 0))
  go_wp2
  refine bodyPost_ret (results_cell_row rfl _ _ gr 33 #[.int .i64 4, .slice none 0 0] (0, 0) _ rfl (reply X2.out.r 4 _) Try.underlying33 rfl (by kernel_rfl)) rfl ?_
  exact fin hb S2.out X2.out 4 _ [] (Kd.R_nil _ _ _ _ _)
set_option maxHeartbeats 4000000 in
set_option maxRecDepth 100000 in
theorem commitFull (k b gb : Nat) (w : World) (T E : Int) (vn vh vp : Value) (now : List Int) (held : List S74) (pins : List Int) (n : Int) (fr : List Int) (hb : b ≤ w.heap.size) (o : Own b gb w T E vn vh vp now held pins) (hf : impl_Space_free.f k T E now held pins = some fr) (h2 : impl_within.f n 0 64 = some true) (h3 : n > (fr.length : Int) ∨ E ≥ 1000000) :
    Calls Try.prog 34 #[.pointer (some ⟨gb, 0, none⟩), .agg #[.int .i64 1, .int .i64 n]] w (Done w b gb vn vh vp T E now held pins 7 []) := by
  obtain ⟨Ap, cp, rfl⟩ := Kd.R_slice o.r.p
  obtain ⟨An, cn, rfl⟩ := Kd.R_slice o.r.n
  obtain ⟨Ah, ch, rfl⟩ := Kd.R_slice o.r.h
  have hu31 := Try.underlying31
  have hu33 := Try.underlying33
  have hu37 := Try.underlying37
  have S0 := Aside0.mk (begin_ 1 n hb o)
  have HF := Aside0.mk hf
  have HW := Aside0.mk h2
  have H3 := Aside0.mk h3
  clear h2 o hf h3
  go_enter Try.func34, Try.ntmps34
  go_upto_region 3 with (fail)
  generalize (w.alloc (.cells #[.int .i64 1, .int .i64 n] 37)).alloc (.cells #[.int .i64 0, .slice none 0 0] 33) = W at S0 ⊢
  generalize w.heap.size + 1 = gr at S0 ⊢
  obtain ⟨hc0, hc1, hc2, hc3, hc4⟩ := cells S0.out.1
  go_upto_region 6 with (first
    | (go_at_call 59; (with_reducible refine (freeOf S0.out.1 k fr HF.out).mono ?_); rintro e w2 ⟨vf, rfl, hr, hB⟩; obtain ⟨Af, cf, ef⟩ := Kd.R_slice hr; subst ef; have S1 := Aside0.mk (S0.out.1.below (Nat.le_trans hb S0.out.1.k.1) hB); have X1 := Aside0.mk (S0.out.2.below hB); clear hr hB; have ha1 := (blk_cell X1.out.a 1).trans (rfl : _ = some (Value.int .i64 n)))
    | (go_at_call 49; (with_reducible refine (impl_within.calls n 0 64 _ _ HW.out).mono ?_); rintro e w3 ⟨rfl, hd⟩; have S2 := Aside0.mk (S1.out.below (Nat.le_trans hb S1.out.k.1) hd.below); have X2 := Aside0.mk (X1.out.below hd.below); clear hd))
  clear hc0 hc1 hc2 hc3 hc4 ha1 S0 S1 X1
  have ha1 := (blk_cell X2.out.a 1).trans (rfl : _ = some (Value.int .i64 n))
  have hc1 := (cells S2.out).2.1
  have hf := blk_frozen X2.out.r
  have hz0 := (blk_cell X2.out.r 0).trans (rfl : _ = some (Value.int .i64 0))
  have hz1 := (blk_cell X2.out.r 1).trans (rfl : _ = some (Value.slice none 0 0))
  by_cases h4 : n > (fr.length : Int)
  · have c4 : decide (n > (fr.length : Int)) = true := decide_eq_true h4
    clear h4
    go_wp2
    refine bodyPost_ret (results_cell_row rfl _ _ gr 33 #[.int .i64 7, .slice none 0 0] (0, 0) _ rfl (reply X2.out.r 7 _) Try.underlying33 rfl (by kernel_rfl)) rfl ?_
    exact fin hb S2.out X2.out 7 _ [] (Kd.R_nil _ _ _ _ _)
  · have c4 : decide (n > (fr.length : Int)) = false := decide_eq_false h4
    have c5 : decide (E ≥ 1000000) = true := decide_eq_true (H3.out.resolve_left h4)
    clear h4
    go_wp2
    refine bodyPost_ret (results_cell_row rfl _ _ gr 33 #[.int .i64 7, .slice none 0 0] (0, 0) _ rfl (reply X2.out.r 7 _) Try.underlying33 rfl (by kernel_rfl)) rfl ?_
    exact fin hb S2.out X2.out 7 _ [] (Kd.R_nil _ _ _ _ _)
end Go.Proofs.Ytcnkacbgcmnokaa.XA.Act
/- The program's act, where an epoch is begun and there are pages enough: a walk. -/
namespace Go.Proofs.Ytcnkacbgcmnokaa.XA.Act
open Go Go.RowKit Go.Proofs.YtcnkacbgcmnokaaW.PrintWords Go.Proofs.YtcnkacbgcmnokaaW.PrintLast Go.Proofs.YtcnkacbgcmnokaaW.PrintMore Go.Proofs.Ytcnkacbgcmnokaa.XA Go.Proofs.Ytcnkacbgcmnokaa.XA.Room
set_option linter.unusedVariables false
set_option linter.unusedSimpArgs false
attribute [local go_sem] Go.Proofs.Ytcnkacbgcmnokaa.Xtra.binOp_gtr Go.Proofs.Ytcnkacbgcmnokaa.Xtra.binOp_leq Go.Proofs.Ytcnkacbgcmnokaa.Xtra.binOp_geq
def pg (E x : Int) : S74 := ⟨x, E⟩
theorem take_pg (now : List Int) (E : Int) (held : List S74) (i : Nat) (h : i < now.length) : held ++ (now.take i).map (pg E) ++ [pg E (now.getD i 0)] = held ++ (now.take (i + 1)).map (pg E) := by
  rw [List.take_succ_eq_append_getElem h, List.getD_eq_getElem?_getD, List.getElem?_eq_getElem h, List.map_append, List.append_assoc]
  rfl
/-- Free numbers and what a step leaves of them. -/
theorem fr_far {W1 : World} {b gb : Nat} {ok : Nat → Prop} {v u : Value} {l : List Int} {j : Nat} {T E : Int} {vn vh vp : Value} (h : (Kd.int .i64).R 3 W1 b ok v l) (hb : W1.heap[gb]? = some (.cells #[.int .i64 T, .int .i64 E, vn, vh, vp] 31 (0, 0))) : (Kd.int .i64).R 3 (W1.setCell ⟨gb, j, none⟩ u) b ok v l := Kd.R_set h hb (by decide) j u
theorem clone_take {W : World} {b : Nat} {A : Option Addr} {c m : Nat} {fr : List Int} (h : (Kd.int .i64).R 3 W b (fun _ => True) (.slice A fr.length c) fr) (hm : m ≤ fr.length) (hl : fr.length ≤ 1048576) :
    Calls Try.prog 57 #[.slice A m c] W fun e w' => ∃ v0_ : Value, e = .returned v0_ ∧ Kd.R (Kd.int .i64) 3 w' W.heap.size (fun _ => True) v0_ (fr.take m) ∧ Below W.heap.size W w' := by
  have ht := Kd.R_take h hm
  have hn : (fr.take m).length = m := by rw [List.length_take]; omega
  have hr := Kd.R_reads' ht
  have h2 := slices_Clone_int_int.calls A c (fr.take m) (fr.take m) W hr.2.2 (by rw [hn]; exact hr.2.1) (by unfold slices_Clone_int_int.f; rw [if_pos (by omega)])
  rw [hn] at h2
  exact h2
theorem cap16 (a c i : Nat) (h : a ≤ 1048576) (h2 : c ≤ 1048576) (hi : i < c) : (a + i + 1) * 16 ≤ 140737488355328 := by omega
set_option maxHeartbeats 8000000 in
set_option maxRecDepth 100000 in
theorem commit (k b gb : Nat) (w : World) (T E : Int) (vn vh vp : Value) (now : List Int) (held : List S74) (pins : List Int) (m : Nat) (fr : List Int) (hb : b ≤ w.heap.size) (o : Own b gb w T E vn vh vp now held pins) (hf : impl_Space_free.f k T E now held pins = some fr) (h2 : impl_within.f (m : Int) 0 64 = some true) (h3 : m ≤ fr.length) (h4 : E < 1000000) (h5 : now.length ≤ 1048576) (h6 : held.length ≤ 1048576) (h7 : fr.length ≤ 1048576)
    (hs : ∀ x ∈ held ++ now.map (pg E), 0 ≤ x.f0 ∧ x.f0 < 4294967296) (hd : ∀ x ∈ held ++ now.map (pg E), ∀ y ∈ held ++ now.map (pg E), x.f0 = y.f0 → x = y) :
    Calls Try.prog 34 #[.pointer (some ⟨gb, 0, none⟩), .agg #[.int .i64 1, .int .i64 (m : Int)]] w (Done w b gb vn vh vp T (wrap64 (E + 1)) (fr.take m) (Rels.left (wrap64 (E + 1)) (Sorth.sorted (held ++ now.map (pg E))) pins) pins 0 (fr.take m)) := by
  obtain ⟨Ap, cp, rfl⟩ := Kd.R_slice o.r.p
  obtain ⟨An, cn, rfl⟩ := Kd.R_slice o.r.n
  obtain ⟨Ah, ch, rfl⟩ := Kd.R_slice o.r.h
  have hu31 := Try.underlying31
  have hu33 := Try.underlying33
  have hu37 := Try.underlying37
  have hu74 := Try.underlying74
  have S0 := Aside0.mk (begin_ 1 (m : Int) hb o)
  have HF := Aside0.mk hf
  have HW := Aside0.mk h2
  have H5 := Aside0.mk h5
  have H6 := Aside0.mk h6
  have H7 := Aside0.mk h7
  have HM := Aside0.mk h3
  have HS := Aside0.mk (And.intro hs hd)
  have c4 : decide ((m : Int) > (fr.length : Int)) = false := decide_eq_false (by omega)
  have c4n : decide (fr.length < m) = false := decide_eq_false (by omega)
  have c5 : decide (E ≥ 1000000) = false := decide_eq_false (by omega)
  clear h2 o hf h3 h4 h5 h6 h7 hs hd
  go_enter Try.func34, Try.ntmps34
  go_upto_region 3 with (fail)
  generalize (w.alloc (.cells #[.int .i64 1, .int .i64 (m : Int)] 37)).alloc (.cells #[.int .i64 0, .slice none 0 0] 33) = W at S0 ⊢
  generalize w.heap.size + 1 = gr at S0 ⊢
  obtain ⟨hc0, hc1, hc2, hc3, hc4⟩ := cells S0.out.1
  go_upto_region 6 with (first
    | (go_at_call 59; (with_reducible refine (freeOf S0.out.1 k fr HF.out).mono ?_); rintro e w2 ⟨vf, rfl, hr, hB⟩; obtain ⟨Af, cf, ef⟩ := Kd.R_slice hr; subst ef; have FR1 := Aside0.mk (Kd.R_lower hr (Nat.le_trans hb S0.out.1.k.1)); have S1 := Aside0.mk (S0.out.1.below (Nat.le_trans hb S0.out.1.k.1) hB); have X1 := Aside0.mk (S0.out.2.below hB); clear hr hB; have ha1 := (blk_cell X1.out.a 1).trans (rfl : _ = some (Value.int .i64 (m : Int))))
    | (go_at_call 49; (with_reducible refine (impl_within.calls (m : Int) 0 64 _ _ HW.out).mono ?_); rintro e w3 ⟨rfl, hd⟩; have FR2 := Aside0.mk (Kd.R_below FR1.out hd.below); have S2 := Aside0.mk (S1.out.below (Nat.le_trans hb S1.out.k.1) hd.below); have X2 := Aside0.mk (X1.out.below hd.below); clear hd))
  clear hc0 hc1 hc2 hc3 hc4 ha1 S0 S1 X1 FR1
  have ha1 := (blk_cell X2.out.a 1).trans (rfl : _ = some (Value.int .i64 (m : Int)))
  have hc1 := (cells S2.out).2.1
  have hc2 := (cells S2.out).2.2.1
  go_upto_region 9 with (fail)
  clear ha1 hc1 hc2
  go_loopg [41, 7] now.length (fun gg s41 s7 wr => ∃ (i : Nat) (vh' : Value), s41 = .int .i64 (i : Int) ∧ Aside0 (i ≤ now.length ∧ now.length ≤ i + gg) ∧ Aside0 (St w b gb (.slice An now.length cn) (.slice Ah held.length ch) (.slice Ap pins.length cp) wr T E (.slice An now.length cn) vh' (.slice Ap pins.length cp) now (held ++ (now.take i).map (pg E)) pins) ∧ Aside0 (Bx w b gb w.heap.size gr 1 (m : Int) wr) ∧ Aside0 ((Kd.int .i64).R 3 wr b (fun _ => True) (.slice Af fr.length cf) fr))
  case atStart => exact ⟨0, _, rfl, ⟨by omega⟩, ⟨by simpa using S2.out⟩, X2, FR2⟩
  case round =>
    clear S2 X2 FR2
    obtain ⟨i, vh', rfl, HI, S2, X2, FR2⟩ := hrel
    by_cases hin : i < now.length
    · have cc : decide ((i : Int) < (now.length : Int)) = true := decide_eq_true (Int.ofNat_lt.2 hin)
      have p1 : (0 : Int) ≤ (i : Int) := Int.natCast_nonneg i
      have p3 : (i : Int) < (now.length : Int) := Int.ofNat_lt.2 hin
      obtain ⟨Av, cv, ev⟩ := Kd.R_slice S2.out.o.r.h
      have hlen : (held ++ (now.take i).map (pg E)).length = held.length + i := by rw [List.length_append, List.length_map, List.length_take]; omega
      rw [hlen] at ev
      subst ev
      obtain ⟨ar, har, hcr⟩ := Kd.at_int (Kd.R_reads' S2.out.o.r.n).2.2 (i : Int) p1 p3
      subst har
      obtain ⟨x, hx⟩ : ∃ x, x = now.getD i 0 := ⟨_, rfl⟩
      have hx' : rd now (i : Int) = x := by rw [hx]; rfl
      rw [hx', Int.toNat_natCast] at hcr
      have TK := Aside0.mk (take_pg now E held i hin)
      rw [← hx] at TK
      have HL := Aside0.mk hlen
      have HC := Aside0.mk (cap16 held.length now.length i H6.out H5.out hin)
      clear hx hx' hlen
      have hc1 := (cells S2.out).2.1
      have hc3 := (cells S2.out).2.2.2.1
      have hd1 := (blk_cell (blk_alloc S2.out.o.box (.cells #[.int .i64 x, .int .i64 E] 74)) 1).trans (rfl : _ = some (Value.int .i64 E))
      have hd3 := (blk_cell (blk_alloc S2.out.o.box (.cells #[.int .i64 x, .int .i64 E] 74)) 3).trans (rfl : _ = some (Value.slice Av (held.length + i) cv))
      go_upto_region 11 with (fail)
      have hwi := wr1 i now.length hin (by have := H5.out; omega)
      go_region_law (refine Kd.R_append_step (W := wr.drew) k74 (w0 := wr) b (by rfl) (.tmp 49) (.tmp 56) 29 74 (.agg #[.int .i64 0, .int .i64 0]) 16 rfl Try.underlying29 info74 rfl (by decide) (by omega) (.slice Av (held.length + i) cv) (held ++ (now.take i).map (pg E)) (pg E x) [.int .i64 x, .int .i64 E] (fun _ => True) (fun _ => False) rfl rfl ?aP (fun _ h => h.elim) ?aF ?aO ?aB ?aS ?aL ?_; (case aP => exact k74_mkM _ _ _ (pg E x)); (case aF => exact (fun _ _ => trivial)); (case aO => exact (by (with_reducible repeat (first | apply Kd.R_alloc | apply Kd.R_drewN | apply Kd.R_drew)); exact S2.out.o.r.h)); (case aB => exact (by repeat (first | exact Below.refl _ _ | apply pw_below_drewN | apply below_drew1))); (case aS => exact Nat.le_trans hb S2.out.k.1); (case aL => rw [HL.out]; exact HC.out); intro v1 w1 ho hB hg hat; rw [TK.out] at ho; obtain ⟨A1, d1, e1⟩ := Kd.R_slice ho; generalize List.length _ = n1 at e1; subst e1; have hbx := blk_grown (blk_drew S2.out.o.box) hg (Kd.R_ne S2.out.o.r.h S2.out.o.box (by decide)); have hz3 := (blk_cell hbx 3).trans (rfl : _ = some (Value.slice Av (held.length + i) cv)); have hf3 := blk_frozen hbx 3; have AP := Aside0.mk (And.intro ho (And.intro hB (And.intro hg (And.intro hat hbx)))); clear ho hB hg hat hbx)
      all_goals (
        have S3 := Aside0.mk (S2.out.toHeld AP.out.1 AP.out.2.1 (grown_kept' AP.out.2.2.1) (Move.hat AP.out.2.2.2.1))
        have X3 := Aside0.mk ((X2.out.row S2.out.o.r.h (by decide) (by decide) (grown_kept' AP.out.2.2.1)).set 3 (.slice A1 n1 d1))
        have FR3 := Aside0.mk (fr_far (j := 3) (u := .slice A1 n1 d1) (apart_ FR2.out S2.out.o.r.h (grown_kept' AP.out.2.2.1)) AP.out.2.2.2.2)
        clear S2 X2 FR2 TK HL HC AP hc1 hc3 hd1 hd3 hcr
        go_wp2_with fail
        go_roundg (gk - 1)
        case measure => have := HI.out; omega
        case rel => exact ⟨i + 1, _, by first | rfl | go_num | (rw [hwi]; done), ⟨by have := HI.out; omega⟩, S3, X3, FR3⟩)
    · have cc : decide ((i : Int) < (now.length : Int)) = false := decide_eq_false (fun h => hin (Int.ofNat_lt.1 h))
      have hni : i = now.length := by have := HI.out; omega
      subst hni
      rw [List.take_length] at S2
      obtain ⟨Av, cv, ev⟩ := Kd.R_slice S2.out.o.r.h
      generalize hnl : (held ++ now.map (pg E)).length = nl at ev
      subst ev
      have hc3 := (cells S2.out).2.2.2.1
      have HNL : Aside0 ((held ++ now.map (pg E)).length < 4611686018427387904) := ⟨by rw [List.length_append, List.length_map]; have := H5.out; have := H6.out; omega⟩
      clear hnl hin
      go_upto_region 14 with (go_at_call 60; (with_reducible refine (Sorth.sort b (.slice Av nl cv) (held ++ now.map (pg E)) _ ?hb ?hr HS.out.1 HS.out.2 HNL.out).mono ?_); (case hb => exact Nat.le_trans hb S2.out.k.1); (case hr => exact S2.out.o.r.h); rintro e w3 ⟨rfl, hr, hB, hK⟩; have S3 := Aside0.mk (S2.out.inPlace hr hB hK); have X3 := Aside0.mk (X2.out.row S2.out.o.r.h (by decide) (by decide) hK); have FR3 := Aside0.mk (apart_ FR2.out S2.out.o.r.h hK); clear hr hB hK)
      clear S2 X2 FR2 hc3 HS HNL HI
      have ha1 := (blk_cell X3.out.a 1).trans (rfl : _ = some (Value.int .i64 (m : Int)))
      have CL := Aside0.mk (clone_take FR3.out HM.out H7.out)
      have q1 : (0 : Int) ≤ (m : Int) := Int.natCast_nonneg m
      have q2 : (m : Int) ≤ (cf : Int) := Int.ofNat_le.2 (Nat.le_trans HM.out (Kd.R_reads' FR3.out).2.1)
      clear c4 c4n c5 cc FR3
      go_upto_region 15 with (go_at_call 57; (with_reducible refine (CL.out).mono ?_); rintro e w4 ⟨v4, rfl, hr, hB⟩; obtain ⟨A4, c4, e4⟩ := Kd.R_slice hr; generalize hn4 : List.length _ = n4 at e4; subst e4; have S4 := Aside0.mk (S3.out.toNow (Nat.le_trans hb S3.out.k.1) hr hB); have X4 := Aside0.mk ((X3.out.below hB).set 2 (.slice A4 n4 c4)); have O4 := Aside0.mk (S3.out.o.below hB); clear hr hB hn4; have hz2 := (blk_cell O4.out.box 2).trans (rfl : _ = some (Value.slice An now.length cn)); have hf2 := blk_frozen O4.out.box 2)
      clear S3 X3 O4 CL hz2 hf2 ha1
      generalize w4.setCell ⟨gb, 2, none⟩ (.slice A4 n4 c4) = W5 at S4 X4 ⊢
      have hz1 := (blk_cell S4.out.o.box 1).trans (rfl : _ = some (Value.int .i64 E))
      have hf1 := blk_frozen S4.out.o.box 1
      go_upto_region 16 with (fail)
      have S5 := Aside0.mk (S4.out.epoch (wrap64 (E + 1)))
      have X5 := Aside0.mk (X4.out.set 1 (.int .i64 (wrap64 (E + 1))))
      clear S4 X4 hz1 hf1
      generalize hE2 : wrap64 (E + 1) = E2 at S5 X5 ⊢
      generalize W5.setCell ⟨gb, 1, none⟩ (.int .i64 E2) = W6 at S5 X5 ⊢
      generalize hso : Sorth.sorted (held ++ now.map (pg E)) = so at S5 ⊢
      have HN : Aside0 ((fr.take m).length < 1099511627776) := ⟨by rw [List.length_take]; have := H7.out; omega⟩
      generalize hft : fr.take m = ft at S5 HN ⊢
      have HE := Aside0.mk (And.intro hE2 (And.intro hso hft))
      clear hE2 hso hft
      obtain ⟨A6, c6, e6⟩ := Kd.R_slice S5.out.o.r.n
      injection e6 with f1 f2 f3
      subst f1 f2 f3
      go_wp2_with (first
        | (go_at_call 62; (with_reducible refine (Rels.rel b gb _ T E2 (.slice A4 ft.length c4) (.slice Av nl cv) (.slice Ap pins.length cp) ft so pins ?hb ?ho).mono ?_); (case hb => exact Nat.le_trans hb S5.out.k.1); (case ho => exact S5.out.o); rintro e w6 ⟨rfl, vh6, hs⟩; have S6 := Aside0.mk (St.then_ S5.out hs); have X6 := Aside0.mk (X5.out.st S5.out hs); clear hs; have hz2 := (cells S6.out).2.2.1)
        | (go_at_call 57; (with_reducible refine (slices_Clone_int_int.calls A4 c4 ft ft _ ?hr ?hc ?hh).mono ?_); (case hr => exact (Kd.R_reads' S6.out.o.r.n).2.2); (case hc => exact (Kd.R_reads' S6.out.o.r.n).2.1); (case hh => unfold slices_Clone_int_int.f; rw [if_pos HN.out]); rintro e w7 ⟨v7, rfl, hr, hB⟩; obtain ⟨A7, c7, e7⟩ := Kd.R_slice hr; subst e7; have HR := Aside0.mk (fresh S6.out hr); have S7 := Aside0.mk (S6.out.below (Nat.le_trans hb S6.out.k.1) hB); have X7 := Aside0.mk (X6.out.below hB); clear hr hB; have hf := blk_frozen X7.out.r; have hz0 := (blk_cell X7.out.r 0).trans (rfl : _ = some (Value.int .i64 0)); have hz3 := (blk_cell X7.out.r 1).trans (rfl : _ = some (Value.slice none 0 0))))
      refine bodyPost_ret (results_cell_row rfl _ _ gr 33 #[.int .i64 0, .slice A7 ft.length c7] (0, 0) _ rfl (reply X7.out.r 0 _) Try.underlying33 rfl (by kernel_rfl)) rfl ?_
      obtain ⟨h1, h2, h3⟩ := HE.out
      subst h1 h2 h3
      exact fin hb S7.out X7.out 0 _ _ HR.out
end Go.Proofs.Ytcnkacbgcmnokaa.XA.Act
/- What the program's act comes to, all kinds of acts. -/
namespace Go.Proofs.Ytcnkacbgcmnokaa.XA.Act
open Go Go.RowKit Go.Proofs.YtcnkacbgcmnokaaW.PrintWords Go.Proofs.YtcnkacbgcmnokaaW.PrintLast Go.Proofs.YtcnkacbgcmnokaaW.PrintMore Go.Proofs.Ytcnkacbgcmnokaa.XA Go.Proofs.Ytcnkacbgcmnokaa.XA.Room
set_option linter.unusedVariables false
set_option linter.unusedSimpArgs false
/-- What an act leaves: the epoch, the pages of now, those that are held, the pins; what it hands back. -/
structure Out where
  E : Int
  now : List Int
  held : List S74
  pins : List Int
  code : Int
  pages : List Int
open Classical in
noncomputable def f (k : Nat) (T E : Int) (now : List Int) (held : List S74) (pins : List Int) (kind n : Int) : Option Out :=
  if kind = 1 then (impl_Space_free.f k T E now held pins).bind fun fr => (impl_within.f n 0 64).bind fun ok =>
    if ok = true then (if n > (fr.length : Int) ∨ E ≥ 1000000 then some ⟨E, now, held, pins, 7, []⟩ else if 0 ≤ n ∧ now.length ≤ 1048576 ∧ held.length ≤ 1048576 ∧ fr.length ≤ 1048576 ∧ (∀ x ∈ held ++ now.map (pg E), 0 ≤ x.f0 ∧ x.f0 < 4294967296) ∧ (∀ x ∈ held ++ now.map (pg E), ∀ y ∈ held ++ now.map (pg E), x.f0 = y.f0 → x = y) then some ⟨wrap64 (E + 1), fr.take n.toNat, Rels.left (wrap64 (E + 1)) (Sorth.sorted (held ++ now.map (pg E))) pins, pins, 0, fr.take n.toNat⟩ else none) else some ⟨E, now, held, pins, 4, []⟩
  else if kind = 2 then (if 4 ≤ pins.length then some ⟨E, now, held, pins, 7, []⟩ else if now.length < 1099511627776 then some ⟨E, now, held, pins ++ [E], 0, now⟩ else none)
  else if kind = 3 then (if pins.length ≤ 1048576 then (impl_within.f n 0 ((pins.length : Int) - 1)).bind fun ok => if ok = true then (if 0 ≤ n ∧ n < (pins.length : Int) then some ⟨E, now, Rels.left E held (pins.eraseIdx n.toNat), pins.eraseIdx n.toNat, 0, []⟩ else none) else some ⟨E, now, held, pins, 5, []⟩ else none)
  else some ⟨E, now, held, pins, 3, []⟩
theorem calls (k b gb : Nat) (w : World) (T E : Int) (vn vh vp : Value) (now : List Int) (held : List S74) (pins : List Int) (kind n : Int) (r : Out) (hb : b ≤ w.heap.size) (o : Own b gb w T E vn vh vp now held pins) (h : f k T E now held pins kind n = some r) :
    Calls Try.prog 34 #[.pointer (some ⟨gb, 0, none⟩), .agg #[.int .i64 kind, .int .i64 n]] w (Done w b gb vn vh vp T r.E r.now r.held r.pins r.code r.pages) := by
  unfold f at h
  by_cases k1 : kind = 1
  · subst k1
    rw [if_pos rfl] at h
    obtain ⟨fr, hf, h⟩ := Option.bind_eq_some_iff.1 h
    obtain ⟨ok, hw, h⟩ := Option.bind_eq_some_iff.1 h
    cases ok with
    | false =>
      rw [if_neg (by decide)] at h
      obtain rfl := Option.some.inj h
      exact commitRange k b gb w T E vn vh vp now held pins n fr hb o hf hw
    | true =>
      rw [if_pos rfl] at h
      by_cases c : n > (fr.length : Int) ∨ E ≥ 1000000
      · rw [if_pos c] at h
        obtain rfl := Option.some.inj h
        exact commitFull k b gb w T E vn vh vp now held pins n fr hb o hf hw c
      · rw [if_neg c] at h
        obtain ⟨⟨h0, h5, h6, h7, hs, hd⟩, h⟩ := Option.ite_none_right_eq_some.1 h
        obtain rfl := Option.some.inj h
        obtain ⟨m, rfl⟩ : ∃ m : Nat, n = (m : Int) := ⟨n.toNat, by omega⟩
        rw [Int.toNat_natCast]
        exact commit k b gb w T E vn vh vp now held pins m fr hb o hf hw (by omega) (by omega) h5 h6 h7 hs hd
  rw [if_neg k1] at h
  by_cases k2 : kind = 2
  · subst k2
    rw [if_pos rfl] at h
    by_cases c : 4 ≤ pins.length
    · rw [if_pos c] at h
      obtain rfl := Option.some.inj h
      exact pinFull b gb w T E vn vh vp now held pins n hb o c
    · rw [if_neg c] at h
      obtain ⟨hl, h⟩ := Option.ite_none_right_eq_some.1 h
      obtain rfl := Option.some.inj h
      exact pin b gb w T E vn vh vp now held pins n hb o (by omega) hl
  rw [if_neg k2] at h
  by_cases k3 : kind = 3
  · subst k3
    rw [if_pos rfl] at h
    obtain ⟨hl, h⟩ := Option.ite_none_right_eq_some.1 h
    obtain ⟨ok, hw, h⟩ := Option.bind_eq_some_iff.1 h
    cases ok with
    | false =>
      rw [if_neg (by decide)] at h
      obtain rfl := Option.some.inj h
      exact unpinNone b gb w T E vn vh vp now held pins n hb o hl hw
    | true =>
      rw [if_pos rfl] at h
      obtain ⟨⟨h0, h1⟩, h⟩ := Option.ite_none_right_eq_some.1 h
      obtain rfl := Option.some.inj h
      obtain ⟨i, rfl⟩ : ∃ i : Nat, n = (i : Int) := ⟨n.toNat, by omega⟩
      rw [Int.toNat_natCast]
      exact unpin b gb w T E vn vh vp now held pins i hb o hl hw (by omega)
  rw [if_neg k3] at h
  obtain rfl := Option.some.inj h
  exact other b gb w T E vn vh vp now held pins kind n hb o k1 k2 k3
end Go.Proofs.Ytcnkacbgcmnokaa.XA.Act
/- The program's SpaceStep: a walk. -/
namespace Go.Proofs.Ytcnkacbgcmnokaa.XA.Istep
open Go Go.RowKit Go.Proofs.YtcnkacbgcmnokaaW.PrintWords Go.Proofs.YtcnkacbgcmnokaaW.PrintLast Go.Proofs.YtcnkacbgcmnokaaW.PrintMore Go.Proofs.Ytcnkacbgcmnokaa.XA Go.Proofs.Ytcnkacbgcmnokaa.XA.Room
set_option linter.unusedVariables false
set_option linter.unusedSimpArgs false
/-- What comes back. -/
structure Res where
  T : Int
  o : Act.Out
  err : Int
noncomputable def f (k : Nat) (a b : Int) (l2 : List Int) (l3 : List S74) (l4 : List Int) (kind n : Int) : Option Res :=
  (impl_SpaceOK.f a b l2 l3 l4).bind fun ok => if ok = true then (impl_copySpace.f a b l2 l3 l4).bind fun c => (Act.f k c.1 c.2.1 c.2.2.1 c.2.2.2.1 c.2.2.2.2 kind n).bind fun r => some ⟨c.1, r, 0⟩ else some ⟨0, ⟨0, [], [], [], 0, []⟩, 1⟩
set_option maxHeartbeats 8000000 in
set_option maxRecDepth 100000 in
theorem calls (k : Nat) (a0_0 : Int) (a0_1 : Int) (A0_2 : Option Addr) (c0_2 : Nat) (l0_2 : List Int) (A0_3 : Option Addr) (c0_3 : Nat) (l0_3 : List (S74)) (A0_4 : Option Addr) (c0_4 : Nat) (l0_4 : List Int) (kind n : Int) (r : Res) (w : World) (hr0_2 : Kd.C (Kd.int .i64) w A0_2 l0_2.length l0_2) (hc0_2 : l0_2.length ≤ c0_2) (hr0_3 : Kd.C k74 w A0_3 l0_3.length l0_3) (hc0_3 : l0_3.length ≤ c0_3) (hr0_4 : Kd.C (Kd.int .i64) w A0_4 l0_4.length l0_4) (hc0_4 : l0_4.length ≤ c0_4) (h : f k a0_0 a0_1 l0_2 l0_3 l0_4 kind n = some r) :
    Calls Try.prog 9 #[.agg #[.int .i64 a0_0, .int .i64 a0_1, .slice A0_2 l0_2.length c0_2, .slice A0_3 l0_3.length c0_3, .slice A0_4 l0_4.length c0_4], .agg #[.int .i64 kind, .int .i64 n]] w fun e w' => ∃ vn vh vp vr : Value, e = .returned (.tuple #[.agg #[.int .i64 r.T, .int .i64 r.o.E, vn, vh, vp], .agg #[.int .i64 r.o.code, vr], .int .i64 r.err]) ∧ Trio w.heap.size w' vn vh vp r.o.now r.o.held r.o.pins ∧ (Kd.int .i64).R 3 w' w.heap.size (fun k => some k ≠ vn.ownBlock ∧ some k ≠ vp.ownBlock) vr r.o.pages ∧ Below w.heap.size w w' := by
  have hu31 := Try.underlying31
  have hu33 := Try.underlying33
  have hu37 := Try.underlying37
  obtain ⟨ok, hok, h⟩ := Option.bind_eq_some_iff.1 h
  have HR2 := Aside0.mk hr0_2
  have HR3 := Aside0.mk hr0_3
  have HR4 := Aside0.mk hr0_4
  have HC := Aside0.mk (And.intro hc0_2 (And.intro hc0_3 hc0_4))
  have HOK := Aside0.mk hok
  have F0 := Aside0.mk (Fr.start w #[.int .i64 a0_0, .int .i64 a0_1, .slice A0_2 l0_2.length c0_2, .slice A0_3 l0_3.length c0_3, .slice A0_4 l0_4.length c0_4] kind n)
  clear hr0_2 hr0_3 hr0_4 hc0_2 hc0_3 hc0_4 hok
  cases ok with
  | false =>
    rw [if_neg (by decide)] at h
    obtain rfl := Option.some.inj h
    clear h
    go_enter Try.func9, Try.ntmps9
    go_upto_region 1 with (fail)
    generalize (((w.alloc (.cells #[.int .i64 a0_0, .int .i64 a0_1, .slice A0_2 l0_2.length c0_2, .slice A0_3 l0_3.length c0_3, .slice A0_4 l0_4.length c0_4] 31)).alloc (.cells #[.int .i64 kind, .int .i64 n] 37)).alloc (.cells #[.int .i64 0, .int .i64 0, .slice none 0 0, .slice none 0 0, .slice none 0 0] 31)).alloc (.cells #[.int .i64 0, .slice none 0 0] 33) = W1 at F0 ⊢
    generalize w.heap.size + 1 + 1 + 1 = g5 at F0 ⊢
    generalize w.heap.size + 1 + 1 = g4 at F0 ⊢
    have hs0 := (blk_cell F0.out.s 0).trans (rfl : _ = some (Value.int .i64 a0_0))
    have hs1 := (blk_cell F0.out.s 1).trans (rfl : _ = some (Value.int .i64 a0_1))
    have hs2 := (blk_cell F0.out.s 2).trans (rfl : _ = some (Value.slice A0_2 l0_2.length c0_2))
    have hs3 := (blk_cell F0.out.s 3).trans (rfl : _ = some (Value.slice A0_3 l0_3.length c0_3))
    have hs4 := (blk_cell F0.out.s 4).trans (rfl : _ = some (Value.slice A0_4 l0_4.length c0_4))
    go_upto_region 2 with (go_at_call 32; (with_reducible refine (impl_SpaceOK.calls a0_0 a0_1 A0_2 c0_2 l0_2 A0_3 c0_3 l0_3 A0_4 c0_4 l0_4 _ _ (Kd.C_below HR2.out F0.out.d) HC.out.1 (Kd.C_below HR3.out F0.out.d) HC.out.2.1 (Kd.C_below HR4.out F0.out.d) HC.out.2.2 HOK.out).mono ?_); rintro e w2 ⟨rfl, hB⟩; have F1 := Aside0.mk (F0.out.below hB); clear hB)
    clear F0 hs0 hs1 hs2 hs3 hs4
    have hy0 := (blk_cell F1.out.r4 0).trans (rfl : _ = some (Value.int .i64 0))
    have hy1 := (blk_cell F1.out.r4 1).trans (rfl : _ = some (Value.int .i64 0))
    have hy2 := (blk_cell F1.out.r4 2).trans (rfl : _ = some (Value.slice none 0 0))
    have hy3 := (blk_cell F1.out.r4 3).trans (rfl : _ = some (Value.slice none 0 0))
    have hy4 := (blk_cell F1.out.r4 4).trans (rfl : _ = some (Value.slice none 0 0))
    have hx0 := (blk_cell F1.out.r5 0).trans (rfl : _ = some (Value.int .i64 0))
    have hx1 := (blk_cell F1.out.r5 1).trans (rfl : _ = some (Value.slice none 0 0))
    have hn45 : ¬ g4 = g5 := F1.out.n45
    have hn54 : ¬ g5 = g4 := fun e => F1.out.n45 e.symm
    have hfy := blk_frozen F1.out.r4
    have hfx := blk_frozen F1.out.r5
    go_wp2
    obtain ⟨t1, t2, t3, t4, t5⟩ := F1.out.cb.told 0 0 0 (.slice none 0 0) (.slice none 0 0) (.slice none 0 0) (.slice none 0 0)
    refine bodyPost_ret (results_cct rfl _ _ g4 g5 31 33 #[.int .i64 0, .int .i64 0, .slice none 0 0, .slice none 0 0, .slice none 0 0] #[.int .i64 0, .slice none 0 0] (0, 0) (0, 0) _ _ rfl t1 Try.underlying31 rfl (by kernel_rfl) rfl t2 Try.underlying33 rfl (by kernel_rfl)) rfl ?_
    exact ⟨_, _, _, _, rfl, ⟨Kd.R_nil _ _ _ _ _, Kd.R_nil _ _ _ _ _, Kd.R_nil _ _ _ _ _⟩, Kd.R_nil _ _ _ _ _, t3⟩
  | true =>
    rw [if_pos rfl] at h
    obtain ⟨⟨c1, c2, c3, c4, c5⟩, hcp, h⟩ := Option.bind_eq_some_iff.1 h
    obtain ⟨o, ho, h⟩ := Option.bind_eq_some_iff.1 h
    obtain rfl := Option.some.inj h
    dsimp only at ho ⊢
    have HCP := Aside0.mk hcp
    have HO := Aside0.mk ho
    clear h hcp ho
    go_enter Try.func9, Try.ntmps9
    go_upto_region 1 with (fail)
    generalize (((w.alloc (.cells #[.int .i64 a0_0, .int .i64 a0_1, .slice A0_2 l0_2.length c0_2, .slice A0_3 l0_3.length c0_3, .slice A0_4 l0_4.length c0_4] 31)).alloc (.cells #[.int .i64 kind, .int .i64 n] 37)).alloc (.cells #[.int .i64 0, .int .i64 0, .slice none 0 0, .slice none 0 0, .slice none 0 0] 31)).alloc (.cells #[.int .i64 0, .slice none 0 0] 33) = W1 at F0 ⊢
    generalize w.heap.size + 1 + 1 + 1 = g5 at F0 ⊢
    generalize w.heap.size + 1 + 1 = g4 at F0 ⊢
    have hs0 := (blk_cell F0.out.s 0).trans (rfl : _ = some (Value.int .i64 a0_0))
    have hs1 := (blk_cell F0.out.s 1).trans (rfl : _ = some (Value.int .i64 a0_1))
    have hs2 := (blk_cell F0.out.s 2).trans (rfl : _ = some (Value.slice A0_2 l0_2.length c0_2))
    have hs3 := (blk_cell F0.out.s 3).trans (rfl : _ = some (Value.slice A0_3 l0_3.length c0_3))
    have hs4 := (blk_cell F0.out.s 4).trans (rfl : _ = some (Value.slice A0_4 l0_4.length c0_4))
    go_upto_region 3 with (go_at_call 32; (with_reducible refine (impl_SpaceOK.calls a0_0 a0_1 A0_2 c0_2 l0_2 A0_3 c0_3 l0_3 A0_4 c0_4 l0_4 _ _ (Kd.C_below HR2.out F0.out.d) HC.out.1 (Kd.C_below HR3.out F0.out.d) HC.out.2.1 (Kd.C_below HR4.out F0.out.d) HC.out.2.2 HOK.out).mono ?_); rintro e w2 ⟨rfl, hB⟩; have F1 := Aside0.mk (F0.out.below hB); clear hB)
    clear F0 hs0 hs1 hs2 hs3 hs4
    have hs0 := (blk_cell F1.out.s 0).trans (rfl : _ = some (Value.int .i64 a0_0))
    have hs1 := (blk_cell F1.out.s 1).trans (rfl : _ = some (Value.int .i64 a0_1))
    have hs2 := (blk_cell F1.out.s 2).trans (rfl : _ = some (Value.slice A0_2 l0_2.length c0_2))
    have hs3 := (blk_cell F1.out.s 3).trans (rfl : _ = some (Value.slice A0_3 l0_3.length c0_3))
    have hs4 := (blk_cell F1.out.s 4).trans (rfl : _ = some (Value.slice A0_4 l0_4.length c0_4))
    go_upto_region 4 with (go_at_call 33; (with_reducible refine (impl_copySpace.calls a0_0 a0_1 A0_2 c0_2 l0_2 A0_3 c0_3 l0_3 A0_4 c0_4 l0_4 c1 c2 c3 c4 c5 _ (Kd.C_below HR2.out F1.out.d) HC.out.1 (Kd.C_below HR3.out F1.out.d) HC.out.2.1 (Kd.C_below HR4.out F1.out.d) HC.out.2.2 HCP.out).mono ?_); rintro e w3 ⟨v2, v3, v4, rfl, hr2, hr3, hr4, hB⟩; obtain ⟨B2, d2, e2⟩ := Kd.R_slice hr2; obtain ⟨B3, d3, e3⟩ := Kd.R_slice hr3; obtain ⟨B4, d4, e4⟩ := Kd.R_slice hr4; generalize c3.length = n3 at e2; generalize c4.length = n4 at e3; generalize c5.length = n5 at e4; subst e2 e3 e4; have F2 := Aside0.mk (F1.out.below hB); have TR := Aside0.mk (Trio.lower ⟨hr2, hr3, Kd.R_mono hr4 (fun _ _ => trivial)⟩ F1.out.d.size); clear hr2 hr3 hr4 hB)
    clear hs0 hs1 hs2 hs3 hs4
    have BA := below_alloc (Below.refl w3.heap.size w3) (.cells #[.int .i64 c1, .int .i64 c2, .slice B2 n3 d2, .slice B3 n4 d3, .slice B4 n5 d4] 31)
    have O4 := Aside0.mk (Own.mk (blk_new w3 (.cells #[.int .i64 c1, .int .i64 c2, .slice B2 n3 d2, .slice B3 n4 d3, .slice B4 n5 d4] 31)) F2.out.d.size (TR.out.below BA))
    have F3 := Aside0.mk (F2.out.below BA)
    have LT : Aside0 (w.heap.size < w3.heap.size ∧ w.heap.size + 1 < w3.heap.size ∧ g4 < w3.heap.size ∧ g5 < w3.heap.size) := ⟨F2.out.lt (.inl rfl), F2.out.lt (.inr (.inl rfl)), F2.out.lt (.inr (.inr (.inl rfl))), F2.out.lt (.inr (.inr (.inr rfl)))⟩
    clear BA F1 F2 TR
    generalize w3.alloc (.cells #[.int .i64 c1, .int .i64 c2, .slice B2 n3 d2, .slice B3 n4 d3, .slice B4 n5 d4] 31) = W4 at O4 F3 ⊢
    generalize w3.heap.size = gb at O4 F3 LT ⊢
    have ha0 := (blk_cell F3.out.a 0).trans (rfl : _ = some (Value.int .i64 kind))
    have ha1 := (blk_cell F3.out.a 1).trans (rfl : _ = some (Value.int .i64 n))
    go_upto_region 5 with (go_at_call 34; (with_reducible refine (Act.calls k w.heap.size gb _ c1 c2 _ _ _ c3 c4 c5 kind n o F3.out.d.size O4.out HO.out).mono ?_); rintro e w5 ⟨vn, vh, vp, vr, rfl, hs, hr⟩; obtain ⟨D2, f2, e2⟩ := Kd.R_slice hs.o.r.n; obtain ⟨D3, f3, e3⟩ := Kd.R_slice hs.o.r.h; obtain ⟨D4, f4, e4⟩ := Kd.R_slice hs.o.r.p; obtain ⟨D5, f5, e5⟩ := Kd.R_slice hr; generalize o.now.length = m2 at e2; generalize o.held.length = m3 at e3; generalize o.pins.length = m4 at e4; generalize o.pages.length = m5 at e5; subst e2 e3 e4 e5; have S5 := Aside0.mk hs; have R5 := Aside0.mk (Kd.R_lower (Kd.R_mono hr (fun q hq => And.intro hq.1 hq.2.2.1)) F3.out.d.size); have F5 := Aside0.mk (F3.out.kept O4.out LT.out hs.k hs.d); clear hs hr)
    have BA := below_alloc (Below.refl w5.heap.size w5) (.cells #[.int .i64 o.code, .slice D5 m5 f5] 33)
    have F6 := Aside0.mk (F5.out.below BA)
    have T6 := Aside0.mk (S5.out.o.r.below BA)
    have R6 := Aside0.mk (Kd.R_below R5.out BA)
    have X6 := Aside0.mk (blk_below S5.out.o.box BA)
    have X8 := Aside0.mk (blk_new w5 (.cells #[.int .i64 o.code, .slice D5 m5 f5] 33))
    have hn84 : ¬ g4 = w5.heap.size := fun e => Nat.lt_irrefl _ (e ▸ F5.out.lt (.inr (.inr (.inl rfl))))
    clear BA S5 R5 F5 F3 O4 ha0 ha1
    generalize w5.alloc (.cells #[.int .i64 o.code, .slice D5 m5 f5] 33) = W6 at F6 T6 R6 X6 X8 ⊢
    generalize w5.heap.size = g8 at X8 hn84 ⊢
    have hb0 := (blk_cell X6.out 0).trans (rfl : _ = some (Value.int .i64 c1))
    have hb1 := (blk_cell X6.out 1).trans (rfl : _ = some (Value.int .i64 o.E))
    have hb2 := (blk_cell X6.out 2).trans (rfl : _ = some (Value.slice D2 m2 f2))
    have hb3 := (blk_cell X6.out 3).trans (rfl : _ = some (Value.slice D3 m3 f3))
    have hb4 := (blk_cell X6.out 4).trans (rfl : _ = some (Value.slice D4 m4 f4))
    have he0 := (blk_cell X8.out 0).trans (rfl : _ = some (Value.int .i64 o.code))
    have he1 := (blk_cell X8.out 1).trans (rfl : _ = some (Value.slice D5 m5 f5))
    have hy0 := (blk_cell F6.out.r4 0).trans (rfl : _ = some (Value.int .i64 0))
    have hy1 := (blk_cell F6.out.r4 1).trans (rfl : _ = some (Value.int .i64 0))
    have hy2 := (blk_cell F6.out.r4 2).trans (rfl : _ = some (Value.slice none 0 0))
    have hy3 := (blk_cell F6.out.r4 3).trans (rfl : _ = some (Value.slice none 0 0))
    have hy4 := (blk_cell F6.out.r4 4).trans (rfl : _ = some (Value.slice none 0 0))
    have hx0 := (blk_cell F6.out.r5 0).trans (rfl : _ = some (Value.int .i64 0))
    have hx1 := (blk_cell F6.out.r5 1).trans (rfl : _ = some (Value.slice none 0 0))
    have hn45 : ¬ g4 = g5 := F6.out.n45
    have hn54 : ¬ g5 = g4 := fun e => F6.out.n45 e.symm
    have hn48 : ¬ g8 = g4 := fun e => hn84 e.symm
    have hfy := blk_frozen F6.out.r4
    have hfx := blk_frozen F6.out.r5
    clear X6 X8
    go_region_with fail
    all_goals (
      go_wp2_with fail
      obtain ⟨t1, t2, t3, t4, t5⟩ := F6.out.cb.told c1 o.E o.code (.slice D2 m2 f2) (.slice D3 m3 f3) (.slice D4 m4 f4) (.slice D5 m5 f5)
      refine bodyPost_ret (results_cct rfl _ _ g4 g5 31 33 #[.int .i64 c1, .int .i64 o.E, .slice D2 m2 f2, .slice D3 m3 f3, .slice D4 m4 f4] #[.int .i64 o.code, .slice D5 m5 f5] (0, 0) (0, 0) _ _ rfl (blk_drew t1) Try.underlying31 rfl (by kernel_rfl) rfl (blk_drew t2) Try.underlying33 rfl (by kernel_rfl)) rfl ?_
      exact ⟨_, _, _, _, rfl, (t4 T6.out).below (below_drew (Below.refl _ _)), Kd.R_drew (t5 R6.out), below_drew t3⟩)
end Go.Proofs.Ytcnkacbgcmnokaa.XA.Istep
