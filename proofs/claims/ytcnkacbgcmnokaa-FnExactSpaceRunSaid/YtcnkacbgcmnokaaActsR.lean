/- The program's act, where an epoch is begun and there are pages enough: a walk. -/
import Derived.Test.YtcnkacbgcmnokaaAct1R
import Derived.Test.YtcnkacbgcmnokaaSorthR
import Derived.Deep.RegionLaw
namespace Go.Proofs.Ytcnkacbgcmnokaa.XR.Act
open Go Go.RowKit Go.Proofs.YtcnkacbgcmnokaaW.PrintWords Go.Proofs.YtcnkacbgcmnokaaW.PrintLast Go.Proofs.YtcnkacbgcmnokaaW.PrintMore Go.Proofs.Ytcnkacbgcmnokaa.XR Go.Proofs.Ytcnkacbgcmnokaa.XR.Room
set_option linter.unusedVariables false
set_option linter.unusedSimpArgs false
attribute [local go_sem] Go.Proofs.Ytcnkacbgcmnokaa.Xtra.binOp_gtr Go.Proofs.Ytcnkacbgcmnokaa.Xtra.binOp_leq Go.Proofs.Ytcnkacbgcmnokaa.Xtra.binOp_geq
def pg (E x : Int) : S74 := ⟨x, E⟩
theorem take_pg (now : List Int) (E : Int) (held : List S74) (i : Nat) (h : i < now.length) : held ++ (now.take i).map (pg E) ++ [pg E (now.getD i 0)] = held ++ (now.take (i + 1)).map (pg E) := by
  rw [List.take_succ_eq_append_getElem h, List.getD_eq_getElem?_getD, List.getElem?_eq_getElem h, List.map_append, List.append_assoc]
  rfl
/-- Free numbers and what a step leaves of them. -/
theorem fr_far {W1 : World} {b gb : Nat} {ok : Nat → Prop} {v u : Value} {l : List Int} {j : Nat} {T E : Int} {vn vh vp : Value} (h : (Kd.int .i64).R 3 W1 b ok v l) (hb : W1.heap[gb]? = some (.cells #[.int .i64 T, .int .i64 E, vn, vh, vp] 31 (0, 0))) : (Kd.int .i64).R 3 (W1.setCell ⟨gb, j, none⟩ u) b ok v l := Kd.R_set h hb (by decide) j u
theorem clone_take {W : World} {b : Nat} {A : Option Addr} {c m : Nat} {fr : List Int} (h : (Kd.int .i64).R 3 W b (fun _ => True) (.slice A fr.length c) fr) (hm : m ≤ fr.length) (hl : fr.length ≤ 1048576) :
    Calls Try.prog 57 #[.slice A m c] W fun e w' => ∃ v0_ : Value, e = .returned v0_ ∧ Kd.R (Kd.int .i64) 3 w' W.heap.size (fun _ => True) v0_ (fr.take m) ∧ Below W.heap.size W w' := by
  have ht := Kd.R_take h hm
  have hn : (fr.take m).length = m := by rw [List.length_take]; omega
  have hr := Kd.R_reads' ht
  have h2 := slices_Clone_int_int.calls A c (fr.take m) (fr.take m) W hr.2.2 (by rw [hn]; exact hr.2.1) (by unfold slices_Clone_int_int.f; rw [if_pos (by omega)])
  rw [hn] at h2
  exact h2
theorem cap16 (a c i : Nat) (h : a ≤ 1048576) (h2 : c ≤ 1048576) (hi : i < c) : (a + i + 1) * 16 ≤ 140737488355328 := by omega
set_option maxHeartbeats 8000000 in
set_option maxRecDepth 100000 in
theorem commit (k b gb : Nat) (w : World) (T E : Int) (vn vh vp : Value) (now : List Int) (held : List S74) (pins : List Int) (m : Nat) (fr : List Int) (hb : b ≤ w.heap.size) (o : Own b gb w T E vn vh vp now held pins) (hf : impl_Space_free.f k T E now held pins = some fr) (h2 : impl_within.f (m : Int) 0 64 = some true) (h3 : m ≤ fr.length) (h4 : E < 1000000) (h5 : now.length ≤ 1048576) (h6 : held.length ≤ 1048576) (h7 : fr.length ≤ 1048576)
    (hs : ∀ x ∈ held ++ now.map (pg E), 0 ≤ x.f0 ∧ x.f0 < 4294967296) (hd : ∀ x ∈ held ++ now.map (pg E), ∀ y ∈ held ++ now.map (pg E), x.f0 = y.f0 → x = y) :
    Calls Try.prog 34 #[.pointer (some ⟨gb, 0, none⟩), .agg #[.int .i64 1, .int .i64 (m : Int)]] w (Done w b gb vn vh vp T (wrap64 (E + 1)) (fr.take m) (Rels.left (wrap64 (E + 1)) (Sorth.sorted (held ++ now.map (pg E))) pins) pins 0 (fr.take m)) := by
  obtain ⟨Ap, cp, rfl⟩ := Kd.R_slice o.r.p
  obtain ⟨An, cn, rfl⟩ := Kd.R_slice o.r.n
  obtain ⟨Ah, ch, rfl⟩ := Kd.R_slice o.r.h
  have hu31 := Try.underlying31
  have hu33 := Try.underlying33
  have hu37 := Try.underlying37
  have hu74 := Try.underlying74
  have S0 := Aside0.mk (begin_ 1 (m : Int) hb o)
  have HF := Aside0.mk hf
  have HW := Aside0.mk h2
  have H5 := Aside0.mk h5
  have H6 := Aside0.mk h6
  have H7 := Aside0.mk h7
  have HM := Aside0.mk h3
  have HS := Aside0.mk (And.intro hs hd)
  have c4 : decide ((m : Int) > (fr.length : Int)) = false := decide_eq_false (by omega)
  have c4n : decide (fr.length < m) = false := decide_eq_false (by omega)
  have c5 : decide (E ≥ 1000000) = false := decide_eq_false (by omega)
  clear h2 o hf h3 h4 h5 h6 h7 hs hd
  go_enter Try.func34, Try.ntmps34
  go_upto_region 3 with (fail)
  generalize (w.alloc (.cells #[.int .i64 1, .int .i64 (m : Int)] 37)).alloc (.cells #[.int .i64 0, .slice none 0 0] 33) = W at S0 ⊢
  generalize w.heap.size + 1 = gr at S0 ⊢
  obtain ⟨hc0, hc1, hc2, hc3, hc4⟩ := cells S0.out.1
  go_upto_region 6 with (first
    | (go_at_call 59; (with_reducible refine (freeOf S0.out.1 k fr HF.out).mono ?_); rintro e w2 ⟨vf, rfl, hr, hB⟩; obtain ⟨Af, cf, ef⟩ := Kd.R_slice hr; subst ef; have FR1 := Aside0.mk (Kd.R_lower hr (Nat.le_trans hb S0.out.1.k.1)); have S1 := Aside0.mk (S0.out.1.below (Nat.le_trans hb S0.out.1.k.1) hB); have X1 := Aside0.mk (S0.out.2.below hB); clear hr hB; have ha1 := (blk_cell X1.out.a 1).trans (rfl : _ = some (Value.int .i64 (m : Int))))
    | (go_at_call 49; (with_reducible refine (impl_within.calls (m : Int) 0 64 _ _ HW.out).mono ?_); rintro e w3 ⟨rfl, hd⟩; have FR2 := Aside0.mk (Kd.R_below FR1.out hd.below); have S2 := Aside0.mk (S1.out.below (Nat.le_trans hb S1.out.k.1) hd.below); have X2 := Aside0.mk (X1.out.below hd.below); clear hd))
  clear hc0 hc1 hc2 hc3 hc4 ha1 S0 S1 X1 FR1
  have ha1 := (blk_cell X2.out.a 1).trans (rfl : _ = some (Value.int .i64 (m : Int)))
  have hc1 := (cells S2.out).2.1
  have hc2 := (cells S2.out).2.2.1
  go_upto_region 9 with (fail)
  clear ha1 hc1 hc2
  go_loopg [41, 7] now.length (fun gg s41 s7 wr => ∃ (i : Nat) (vh' : Value), s41 = .int .i64 (i : Int) ∧ Aside0 (i ≤ now.length ∧ now.length ≤ i + gg) ∧ Aside0 (St w b gb (.slice An now.length cn) (.slice Ah held.length ch) (.slice Ap pins.length cp) wr T E (.slice An now.length cn) vh' (.slice Ap pins.length cp) now (held ++ (now.take i).map (pg E)) pins) ∧ Aside0 (Bx w b gb w.heap.size gr 1 (m : Int) wr) ∧ Aside0 ((Kd.int .i64).R 3 wr b (fun _ => True) (.slice Af fr.length cf) fr))
  case atStart => exact ⟨0, _, rfl, ⟨by omega⟩, ⟨by simpa using S2.out⟩, X2, FR2⟩
  case round =>
    clear S2 X2 FR2
    obtain ⟨i, vh', rfl, HI, S2, X2, FR2⟩ := hrel
    by_cases hin : i < now.length
    · have cc : decide ((i : Int) < (now.length : Int)) = true := decide_eq_true (Int.ofNat_lt.2 hin)
      have p1 : (0 : Int) ≤ (i : Int) := Int.natCast_nonneg i
      have p3 : (i : Int) < (now.length : Int) := Int.ofNat_lt.2 hin
      obtain ⟨Av, cv, ev⟩ := Kd.R_slice S2.out.o.r.h
      have hlen : (held ++ (now.take i).map (pg E)).length = held.length + i := by rw [List.length_append, List.length_map, List.length_take]; omega
      rw [hlen] at ev
      subst ev
      obtain ⟨ar, har, hcr⟩ := Kd.at_int (Kd.R_reads' S2.out.o.r.n).2.2 (i : Int) p1 p3
      subst har
      obtain ⟨x, hx⟩ : ∃ x, x = now.getD i 0 := ⟨_, rfl⟩
      have hx' : rd now (i : Int) = x := by rw [hx]; rfl
      rw [hx', Int.toNat_natCast] at hcr
      have TK := Aside0.mk (take_pg now E held i hin)
      rw [← hx] at TK
      have HL := Aside0.mk hlen
      have HC := Aside0.mk (cap16 held.length now.length i H6.out H5.out hin)
      clear hx hx' hlen
      have hc1 := (cells S2.out).2.1
      have hc3 := (cells S2.out).2.2.2.1
      have hd1 := (blk_cell (blk_alloc S2.out.o.box (.cells #[.int .i64 x, .int .i64 E] 74)) 1).trans (rfl : _ = some (Value.int .i64 E))
      have hd3 := (blk_cell (blk_alloc S2.out.o.box (.cells #[.int .i64 x, .int .i64 E] 74)) 3).trans (rfl : _ = some (Value.slice Av (held.length + i) cv))
      go_upto_region 11 with (fail)
      have hwi := wr1 i now.length hin (by have := H5.out; omega)
      go_region_law (refine Kd.R_append_step (W := wr.drew) k74 (w0 := wr) b (by rfl) (.tmp 49) (.tmp 56) 29 74 (.agg #[.int .i64 0, .int .i64 0]) 16 rfl Try.underlying29 info74 rfl (by decide) (by omega) (.slice Av (held.length + i) cv) (held ++ (now.take i).map (pg E)) (pg E x) [.int .i64 x, .int .i64 E] (fun _ => True) (fun _ => False) rfl rfl ?aP (fun _ h => h.elim) ?aF ?aO ?aB ?aS ?aL ?_; (case aP => exact k74_mkM _ _ _ (pg E x)); (case aF => exact (fun _ _ => trivial)); (case aO => exact (by (with_reducible repeat (first | apply Kd.R_alloc | apply Kd.R_drewN | apply Kd.R_drew)); exact S2.out.o.r.h)); (case aB => exact (by repeat (first | exact Below.refl _ _ | apply pw_below_drewN | apply below_drew1))); (case aS => exact Nat.le_trans hb S2.out.k.1); (case aL => rw [HL.out]; exact HC.out); intro v1 w1 ho hB hg hat; rw [TK.out] at ho; obtain ⟨A1, d1, e1⟩ := Kd.R_slice ho; generalize List.length _ = n1 at e1; subst e1; have hbx := blk_grown (blk_drew S2.out.o.box) hg (Kd.R_ne S2.out.o.r.h S2.out.o.box (by decide)); have hz3 := (blk_cell hbx 3).trans (rfl : _ = some (Value.slice Av (held.length + i) cv)); have hf3 := blk_frozen hbx 3; have AP := Aside0.mk (And.intro ho (And.intro hB (And.intro hg (And.intro hat hbx)))); clear ho hB hg hat hbx)
      all_goals (
        have S3 := Aside0.mk (S2.out.toHeld AP.out.1 AP.out.2.1 (grown_kept' AP.out.2.2.1) (Move.hat AP.out.2.2.2.1))
        have X3 := Aside0.mk ((X2.out.row S2.out.o.r.h (by decide) (by decide) (grown_kept' AP.out.2.2.1)).set 3 (.slice A1 n1 d1))
        have FR3 := Aside0.mk (fr_far (j := 3) (u := .slice A1 n1 d1) (apart_ FR2.out S2.out.o.r.h (grown_kept' AP.out.2.2.1)) AP.out.2.2.2.2)
        clear S2 X2 FR2 TK HL HC AP hc1 hc3 hd1 hd3 hcr
        go_wp2_with fail
        go_roundg (gk - 1)
        case measure => have := HI.out; omega
        case rel => exact ⟨i + 1, _, by first | rfl | go_num | (rw [hwi]; done), ⟨by have := HI.out; omega⟩, S3, X3, FR3⟩)
    · have cc : decide ((i : Int) < (now.length : Int)) = false := decide_eq_false (fun h => hin (Int.ofNat_lt.1 h))
      have hni : i = now.length := by have := HI.out; omega
      subst hni
      rw [List.take_length] at S2
      obtain ⟨Av, cv, ev⟩ := Kd.R_slice S2.out.o.r.h
      generalize hnl : (held ++ now.map (pg E)).length = nl at ev
      subst ev
      have hc3 := (cells S2.out).2.2.2.1
      have HNL : Aside0 ((held ++ now.map (pg E)).length < 4611686018427387904) := ⟨by rw [List.length_append, List.length_map]; have := H5.out; have := H6.out; omega⟩
      clear hnl hin
      go_upto_region 14 with (go_at_call 60; (with_reducible refine (Sorth.sort b (.slice Av nl cv) (held ++ now.map (pg E)) _ ?hb ?hr HS.out.1 HS.out.2 HNL.out).mono ?_); (case hb => exact Nat.le_trans hb S2.out.k.1); (case hr => exact S2.out.o.r.h); rintro e w3 ⟨rfl, hr, hB, hK⟩; have S3 := Aside0.mk (S2.out.inPlace hr hB hK); have X3 := Aside0.mk (X2.out.row S2.out.o.r.h (by decide) (by decide) hK); have FR3 := Aside0.mk (apart_ FR2.out S2.out.o.r.h hK); clear hr hB hK)
      clear S2 X2 FR2 hc3 HS HNL HI
      have ha1 := (blk_cell X3.out.a 1).trans (rfl : _ = some (Value.int .i64 (m : Int)))
      have CL := Aside0.mk (clone_take FR3.out HM.out H7.out)
      have q1 : (0 : Int) ≤ (m : Int) := Int.natCast_nonneg m
      have q2 : (m : Int) ≤ (cf : Int) := Int.ofNat_le.2 (Nat.le_trans HM.out (Kd.R_reads' FR3.out).2.1)
      clear c4 c4n c5 cc FR3
      go_upto_region 15 with (go_at_call 57; (with_reducible refine (CL.out).mono ?_); rintro e w4 ⟨v4, rfl, hr, hB⟩; obtain ⟨A4, c4, e4⟩ := Kd.R_slice hr; generalize hn4 : List.length _ = n4 at e4; subst e4; have S4 := Aside0.mk (S3.out.toNow (Nat.le_trans hb S3.out.k.1) hr hB); have X4 := Aside0.mk ((X3.out.below hB).set 2 (.slice A4 n4 c4)); have O4 := Aside0.mk (S3.out.o.below hB); clear hr hB hn4; have hz2 := (blk_cell O4.out.box 2).trans (rfl : _ = some (Value.slice An now.length cn)); have hf2 := blk_frozen O4.out.box 2)
      clear S3 X3 O4 CL hz2 hf2 ha1
      generalize w4.setCell ⟨gb, 2, none⟩ (.slice A4 n4 c4) = W5 at S4 X4 ⊢
      have hz1 := (blk_cell S4.out.o.box 1).trans (rfl : _ = some (Value.int .i64 E))
      have hf1 := blk_frozen S4.out.o.box 1
      go_upto_region 16 with (fail)
      have S5 := Aside0.mk (S4.out.epoch (wrap64 (E + 1)))
      have X5 := Aside0.mk (X4.out.set 1 (.int .i64 (wrap64 (E + 1))))
      clear S4 X4 hz1 hf1
      generalize hE2 : wrap64 (E + 1) = E2 at S5 X5 ⊢
      generalize W5.setCell ⟨gb, 1, none⟩ (.int .i64 E2) = W6 at S5 X5 ⊢
      generalize hso : Sorth.sorted (held ++ now.map (pg E)) = so at S5 ⊢
      have HN : Aside0 ((fr.take m).length < 1099511627776) := ⟨by rw [List.length_take]; have := H7.out; omega⟩
      generalize hft : fr.take m = ft at S5 HN ⊢
      have HE := Aside0.mk (And.intro hE2 (And.intro hso hft))
      clear hE2 hso hft
      obtain ⟨A6, c6, e6⟩ := Kd.R_slice S5.out.o.r.n
      injection e6 with f1 f2 f3
      subst f1 f2 f3
      go_wp2_with (first
        | (go_at_call 62; (with_reducible refine (Rels.rel b gb _ T E2 (.slice A4 ft.length c4) (.slice Av nl cv) (.slice Ap pins.length cp) ft so pins ?hb ?ho).mono ?_); (case hb => exact Nat.le_trans hb S5.out.k.1); (case ho => exact S5.out.o); rintro e w6 ⟨rfl, vh6, hs⟩; have S6 := Aside0.mk (St.then_ S5.out hs); have X6 := Aside0.mk (X5.out.st S5.out hs); clear hs; have hz2 := (cells S6.out).2.2.1)
        | (go_at_call 57; (with_reducible refine (slices_Clone_int_int.calls A4 c4 ft ft _ ?hr ?hc ?hh).mono ?_); (case hr => exact (Kd.R_reads' S6.out.o.r.n).2.2); (case hc => exact (Kd.R_reads' S6.out.o.r.n).2.1); (case hh => unfold slices_Clone_int_int.f; rw [if_pos HN.out]); rintro e w7 ⟨v7, rfl, hr, hB⟩; obtain ⟨A7, c7, e7⟩ := Kd.R_slice hr; subst e7; have HR := Aside0.mk (fresh S6.out hr); have S7 := Aside0.mk (S6.out.below (Nat.le_trans hb S6.out.k.1) hB); have X7 := Aside0.mk (X6.out.below hB); clear hr hB; have hf := blk_frozen X7.out.r; have hz0 := (blk_cell X7.out.r 0).trans (rfl : _ = some (Value.int .i64 0)); have hz3 := (blk_cell X7.out.r 1).trans (rfl : _ = some (Value.slice none 0 0))))
      refine bodyPost_ret (results_cell_row rfl _ _ gr 33 #[.int .i64 0, .slice A7 ft.length c7] (0, 0) _ rfl (reply X7.out.r 0 _) Try.underlying33 rfl (by kernel_rfl)) rfl ?_
      obtain ⟨h1, h2, h3⟩ := HE.out
      subst h1 h2 h3
      exact fin hb S7.out X7.out 0 _ _ HR.out
end Go.Proofs.Ytcnkacbgcmnokaa.XR.Act
