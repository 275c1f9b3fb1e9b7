/- The reference's commit where there are pages enough: a walk. -/
import Derived.Test.YtcnkacbgcmnokaaScomR
import Derived.Deep.RegionLaw
namespace Go.Proofs.Ytcnkacbgcmnokaa.XR.Scom
open Go Go.RowKit Go.Proofs.YtcnkacbgcmnokaaW.PrintWords Go.Proofs.YtcnkacbgcmnokaaW.PrintLast Go.Proofs.YtcnkacbgcmnokaaW.PrintMore Go.Proofs.Ytcnkacbgcmnokaa.XR Go.Proofs.Ytcnkacbgcmnokaa.XR.Room Go.Proofs.Ytcnkacbgcmnokaa.XR.Srel Go.Proofs.Ytcnkacbgcmnokaa.XR.Act
set_option linter.unusedVariables false
set_option linter.unusedSimpArgs false
attribute [local go_sem] Go.Proofs.Ytcnkacbgcmnokaa.Xtra.binOp_gtr Go.Proofs.Ytcnkacbgcmnokaa.Xtra.binOp_leq Go.Proofs.Ytcnkacbgcmnokaa.Xtra.binOp_geq
def bb (held : List S74) (now : List Int) (i k : Nat) : Bool := decide (i = held.length) || (decide (k < now.length) && decide (now.getD k 0 < (held.getD i z74).f0))
theorem dropH (l : List S74) (i : Nat) (h : i < l.length) : l.drop i = l.getD i z74 :: l.drop (i + 1) := by
  rw [List.drop_eq_getElem_cons h, List.getD_eq_getElem?_getD, List.getElem?_eq_getElem h]
  rfl
theorem dropI (l : List Int) (i : Nat) (h : i < l.length) : l.drop i = l.getD i 0 :: l.drop (i + 1) := by
  rw [List.drop_eq_getElem_cons h, List.getD_eq_getElem?_getD, List.getElem?_eq_getElem h]
  rfl
theorem mg_step (E : Int) (held : List S74) (now : List Int) (i k d : Nat) (hi : i ≤ held.length) (hk : k ≤ now.length) (hd : d + 1 = (held.length - i) + (now.length - k)) :
    mg E (d + 1) (held.drop i) (now.drop k) = if bb held now i k = true then pg E (now.getD k 0) :: mg E d (held.drop i) (now.drop (k + 1)) else held.getD i z74 :: mg E d (held.drop (i + 1)) (now.drop k) := by
  unfold bb
  by_cases h1 : i = held.length
  · have h2 : k < now.length := by omega
    rw [decide_eq_true h1, Bool.true_or, if_pos rfl, List.drop_eq_nil_of_le (by omega : held.length ≤ i), dropI now k h2]
    rfl
  · rw [decide_eq_false h1, Bool.false_or, dropH held i (by omega)]
    by_cases h2 : k < now.length
    · rw [decide_eq_true h2, Bool.true_and, dropI now k h2]
      by_cases h3 : now.getD k 0 < (held.getD i z74).f0
      · rw [if_pos (decide_eq_true h3)]
        show (if now.getD k 0 < (held.getD i z74).f0 then _ else _) = _
        rw [if_pos h3]
      · rw [if_neg (by simpa using h3)]
        show (if now.getD k 0 < (held.getD i z74).f0 then _ else _) = _
        rw [if_neg h3]
    · rw [decide_eq_false h2, Bool.false_and, if_neg (by decide), List.drop_eq_nil_of_le (by omega : now.length ≤ k)]
      rfl
theorem bb_true {held : List S74} {now : List Int} {i k : Nat} (h : bb held now i k = true) (hd : i < held.length ∨ k < now.length) : k < now.length := by
  unfold bb at h
  by_cases h1 : i = held.length
  · omega
  · rw [decide_eq_false h1, Bool.false_or] at h
    exact of_decide_eq_true (Bool.and_eq_true _ _ ▸ h).1
theorem bb_false {held : List S74} {now : List Int} {i k : Nat} (h : bb held now i k = false) (hi : i ≤ held.length) : i < held.length := by
  by_cases h1 : i = held.length
  · unfold bb at h
    rw [decide_eq_true h1, Bool.true_or] at h
    cases h
  · omega
theorem frC {W : World} {b : Nat} {ok : Nat → Prop} {A : Option Addr} {c m : Nat} {fr : List Int} (h : (Kd.int .i64).R 3 W b ok (.slice A fr.length c) fr) (hm : m ≤ fr.length) : Kd.C (Kd.int .i64) W A m (fr.take m) := by
  have h2 := (Kd.R_reads' (Kd.R_take h hm)).2.2
  rw [show (fr.take m).length = m from by rw [List.length_take]; omega] at h2
  exact h2
theorem mg_len (E : Int) : ∀ (d : Nat) (l : List S74) (m : List Int), (mg E d l m).length ≤ d
  | 0, _, _ => Nat.le_refl _
  | d + 1, [], [] => Nat.zero_le _
  | d + 1, [], x :: xs => Nat.succ_le_succ (mg_len E d [] xs)
  | d + 1, h :: hs, [] => Nat.succ_le_succ (mg_len E d hs [])
  | d + 1, h :: hs, x :: xs => by
    show (if x < h.f0 then pg E x :: mg E d (h :: hs) xs else h :: mg E d hs (x :: xs)).length ≤ d + 1
    split
    · exact Nat.succ_le_succ (mg_len E d _ xs)
    · exact Nat.succ_le_succ (mg_len E d hs _)
set_option maxHeartbeats 16000000 in
set_option maxRecDepth 100000 in
theorem com (k b : Nat) (w : World) (T E : Int) (vn vh vp : Value) (now : List Int) (held : List S74) (pins : List Int) (m : Nat) (fr : List Int) (hb : b ≤ w.heap.size) (t : Trio b w vn vh vp now held pins) (hf : spec_l04Free.f k T E now held pins = some fr) (h2 : spec_l01In.f (m : Int) 0 64 = some true) (h3 : m ≤ fr.length) (h4 : E ≠ 1000000) (h5 : now.length ≤ 1048576) (h6 : held.length ≤ 1048576) (h7 : fr.length ≤ 1048576) (h8 : pins.length ≤ 1048576) :
    Calls Try.prog 45 #[.agg #[.int .i64 T, .int .i64 E, vn, vh, vp], .int .i64 (m : Int)] w (Ret b w T ⟨wrap64 (E + 1), fr.take m, (mg E (held.length + now.length) held now).filter (kp (wrap64 (E + 1)) pins), pins, 0, fr.take m⟩) := by
  obtain ⟨An, cn, rfl⟩ := Kd.R_slice t.n
  obtain ⟨Ah, ch, rfl⟩ := Kd.R_slice t.h
  obtain ⟨Ap, cp, rfl⟩ := Kd.R_slice t.p
  have hu31 := Try.underlying31
  have hu33 := Try.underlying33
  have hu74 := Try.underlying74
  have HT := Aside0.mk t
  have HF := Aside0.mk hf
  have HW := Aside0.mk h2
  have HBW := Aside0.mk hb
  have C0 := Aside0.mk (Cb.start w #[.int .i64 T, .int .i64 E, .slice An now.length cn, .slice Ah held.length ch, .slice Ap pins.length cp])
  clear t hf h2
  have H5 := Aside0.mk h5
  have H6 := Aside0.mk h6
  have H7 := Aside0.mk h7
  have H8 := Aside0.mk h8
  have HM := Aside0.mk h3
  have c4 : decide ((fr.length : Int) < (m : Int)) = false := decide_eq_false (by omega)
  have c4n : decide (fr.length < m) = false := decide_eq_false (by omega)
  have c5 : (E == 1000000) = false := by simpa using h4
  clear h3 h4 h5 h6 h7 h8
  go_enter Try.func45, Try.ntmps45
  go_upto_region 1 with (fail)
  generalize ((w.alloc (.cells #[.int .i64 T, .int .i64 E, .slice An now.length cn, .slice Ah held.length ch, .slice Ap pins.length cp] 31)).alloc (.cells #[.int .i64 0, .int .i64 0, .slice none 0 0, .slice none 0 0, .slice none 0 0] 31)).alloc (.cells #[.int .i64 0, .slice none 0 0] 33) = W1 at C0 ⊢
  generalize w.heap.size + 1 + 1 = g5 at C0 ⊢
  generalize w.heap.size + 1 = g4 at C0 ⊢
  obtain ⟨gs, hgs⟩ : ∃ gs, gs = w.heap.size := ⟨_, rfl⟩
  have C0' : Aside0 (Cb w #[.int .i64 T, .int .i64 E, .slice An now.length cn, .slice Ah held.length ch, .slice Ap pins.length cp] gs g4 g5 W1) := ⟨by rw [hgs]; exact C0.out⟩
  rw [show (Value.pointer (some ⟨w.heap.size, 0, none⟩)) = .pointer (some ⟨gs, 0, none⟩) by rw [hgs]]
  clear C0 hgs
  have hs0 := (blk_cell C0'.out.s 0).trans (rfl : _ = some (Value.int .i64 T))
  have hs1 := (blk_cell C0'.out.s 1).trans (rfl : _ = some (Value.int .i64 E))
  have hs2 := (blk_cell C0'.out.s 2).trans (rfl : _ = some (Value.slice An now.length cn))
  have hs3 := (blk_cell C0'.out.s 3).trans (rfl : _ = some (Value.slice Ah held.length ch))
  have hs4 := (blk_cell C0'.out.s 4).trans (rfl : _ = some (Value.slice Ap pins.length cp))
  go_upto_region 4 with (first
    | (go_at_call 65; (with_reducible refine (freeS k T E (HT.out.below C0'.out.d) fr HF.out).mono ?_); rintro e w2 ⟨vf, rfl, hr, hB⟩; obtain ⟨Af, cf, ef⟩ := Kd.R_slice hr; subst ef; have C1 := Aside0.mk (C0'.out.below hB); have FR1 := Aside0.mk hr; have L1 := Aside0.mk C0'.out.d.size; clear hr hB hs0 hs1 hs2 hs3 hs4)
    | (go_at_call 44; (with_reducible refine (spec_l01In.calls (m : Int) 0 64 _ _ HW.out).mono ?_); rintro e w3 ⟨rfl, hd⟩; have C2 := Aside0.mk (C1.out.below hd.below); have FR2 := Aside0.mk (Kd.R_lower (Kd.R_below FR1.out hd.below) L1.out); clear hd C1 FR1))
  have hs0 := (blk_cell C2.out.s 0).trans (rfl : _ = some (Value.int .i64 T))
  have hs1 := (blk_cell C2.out.s 1).trans (rfl : _ = some (Value.int .i64 E))
  have hs2 := (blk_cell C2.out.s 2).trans (rfl : _ = some (Value.slice An now.length cn))
  have hs3 := (blk_cell C2.out.s 3).trans (rfl : _ = some (Value.slice Ah held.length ch))
  have hs4 := (blk_cell C2.out.s 4).trans (rfl : _ = some (Value.slice Ap pins.length cp))
  go_upto_region 7 with (go_at_call 29; (with_reducible refine (own T E (HT.out.below C2.out.d) ?l1 ?l2 ?l3).mono ?_); (case l1 => have := H5.out; omega); (case l2 => have := H6.out; omega); (case l3 => have := H8.out; omega); rintro e w4 ⟨v2, v3, v4, rfl, ht, hB⟩; obtain ⟨B2, d2, e2⟩ := Kd.R_slice ht.n; obtain ⟨B3, d3, e3⟩ := Kd.R_slice ht.h; obtain ⟨B4, d4, e4⟩ := Kd.R_slice ht.p; generalize now.length = n3 at e2; generalize held.length = n4 at e3; generalize pins.length = n5 at e4; subst e2 e3 e4; have T2 := Aside0.mk (ht.lower C2.out.d.size); have C4 := Aside0.mk (C2.out.below hB); have FR4 := Aside0.mk (Kd.R_below FR2.out hB); clear ht hB C2 FR2 hs0 hs1 hs2 hs3 hs4)
  have BA := below_alloc (Below.refl w4.heap.size w4) (.cells #[.int .i64 T, .int .i64 E, .slice B2 n3 d2, .slice B3 n4 d3, .slice B4 n5 d4] 31)
  have O5 := Own.mk (blk_new w4 (.cells #[.int .i64 T, .int .i64 E, .slice B2 n3 d2, .slice B3 n4 d3, .slice B4 n5 d4] 31)) C4.out.d.size (T2.out.below BA)
  have S5 := Aside0.mk (St.start O5)
  have C5 := Aside0.mk (C4.out.below BA)
  have FR5 := Aside0.mk (Kd.R_below FR4.out BA)
  have NG : Aside0 (gs ≠ w4.heap.size ∧ g4 ≠ w4.heap.size ∧ g5 ≠ w4.heap.size ∧ w.heap.size ≤ w4.heap.size) := ⟨Nat.ne_of_lt (blk_lt C4.out.s), Nat.ne_of_lt (blk_lt C4.out.r4), Nat.ne_of_lt (blk_lt C4.out.r5), C4.out.d.size⟩
  clear BA O5 C4 FR4 T2
  generalize w4.alloc (.cells #[.int .i64 T, .int .i64 E, .slice B2 n3 d2, .slice B3 n4 d3, .slice B4 n5 d4] 31) = W5 at S5 C5 FR5 ⊢
  generalize w4.heap.size = gb at S5 NG ⊢
  have hz1 := (blk_cell S5.out.o.box 1).trans (rfl : _ = some (Value.int .i64 E))
  have hf1 := blk_frozen S5.out.o.box 1
  go_upto_region 8 with (fail)
  have S6 := Aside0.mk (S5.out.epoch (wrap64 (E + 1)))
  have C6 := Aside0.mk (C5.out.set NG.out 1 (.int .i64 (wrap64 (E + 1))))
  have FR6 := Aside0.mk (fr_far (j := 1) (u := .int .i64 (wrap64 (E + 1))) FR5.out S5.out.o.box)
  clear C5 FR5 hz1 hf1
  generalize W5.setCell ⟨gb, 1, none⟩ (.int .i64 (wrap64 (E + 1))) = W6 at S6 C6 FR6 ⊢
  have q1 : (0 : Int) ≤ (m : Int) := Int.natCast_nonneg m
  have q2 : (m : Int) ≤ (cf : Int) := Int.ofNat_le.2 (Nat.le_trans HM.out (Kd.R_reads' FR6.out).2.1)
  have HM8 : Aside0 ((0 + m) * 8 ≤ 140737488355328) := ⟨by have := HM.out; have := H7.out; omega⟩
  go_upto_region 9 with (first
    | ((with_reducible refine gate_dst (N := 36) rfl ?_); refine Kd.R_lit (Kd.int .i64) _ 3 ?hg (N := 36) ?hd (xs := ([] : List Int)) (inner := []) (ok := fun _ => True) (okp := fun _ => True) ?hr ?hp (fun _ hk => hk) trivial (Below.refl _ _) (Nat.le_refl _) (by simp) ?_; (case hd => rfl); (case hg => rfl); (case hr => first | (go_simp; done) | (go_simp; rfl)); (case hp => exact (Reps.none _ _)); intro va wa ho hb_ hg_ hnew_; have HA := Aside0.mk ho; have BA := Aside0.mk hb_; clear ho hb_ hg_ hnew_)
    | ((with_reducible refine gate_builtin (b := .append) (xs := #[.tmp 36, .tmp 39]) rfl ?_); at_builtin; refine Kd.R_append_rows (Kd.int .i64) (w0 := W6) W6.heap.size rfl (.tmp 36) (.tmp 39) 22 3 (.int .i64 0) 8 rfl Try.underlying22 info3 rfl (by decide) (by omega) va [] (fr.take m) _ _ _ (fun _ => True) (fun _ => False) rfl rfl HA.out (frC (Kd.R_below FR6.out BA.out) HM.out) (fun _ _ h => h) (fun _ h => h.elim) (fun _ _ => trivial) BA.out BA.out.size (by simp only [List.length_nil]; exact HM8.out) ?_; intro vb wb ho hb_ hg hat; obtain ⟨A7, c7, e7⟩ := Kd.R_slice ho; generalize List.length _ = n7 at e7; subst e7; have S7 := Aside0.mk (S6.out.toNow C6.out.d.size ho hb_); have C7 := Aside0.mk ((C6.out.below hb_).set NG.out 2 (.slice A7 n7 c7)); have FR7 := Aside0.mk (fr_far (j := 2) (u := .slice A7 n7 c7) (Kd.R_below FR6.out hb_) (S6.out.o.below hb_).box); have O7 := Aside0.mk (S6.out.o.below hb_).box; clear ho hb_ hg hat; have hz2 := (blk_cell O7.out 2).trans (rfl : _ = some (Value.slice B2 n3 d2)); have hf2 := blk_frozen O7.out 2))
  clear S6 C6 FR6 HA BA O7 hz2 hf2
  rw [List.nil_append] at S7
  generalize wb.setCell ⟨gb, 2, none⟩ (.slice A7 n7 c7) = W7 at S7 C7 FR7 ⊢
  have hz3 := (blk_cell (blk_alloc S7.out.o.box (.cells #[] 74)) 3).trans (rfl : _ = some (Value.slice B3 n4 d3))
  have hf3 := blk_frozen (blk_alloc S7.out.o.box (.cells #[] 74)) 3
  go_upto_region 10 with (fail)
  have S8 := Aside0.mk (S7.out.toHeld (W1 := W7.alloc (.cells #[] 74)) (vh' := .slice (some ⟨W7.heap.size, 0, none⟩) 0 0) (held' := []) (Room.empty k74 74 _ _ _ _ (blk_new W7 (.cells #[] 74)) C7.out.d.size trivial) ((below_alloc (Below.refl _ _) _).mono C7.out.d.size) (Kept.of_below (below_alloc (Below.refl _ _) _) _) (fun k hk => .inr (Nat.le_of_eq (by simpa [Value.ownBlock] using hk))))
  have C8 := Aside0.mk ((C7.out.below (below_alloc (Below.refl _ _) (.cells #[] 74))).set NG.out 3 (.slice (some ⟨W7.heap.size, 0, none⟩) 0 0))
  have FR8 := Aside0.mk (fr_far (j := 3) (u := .slice (some ⟨W7.heap.size, 0, none⟩) 0 0) (Kd.R_alloc FR7.out (.cells #[] 74)) (blk_alloc S7.out.o.box (.cells #[] 74)))
  clear S7 C7 FR7 hz3 hf3 c4 c4n c5 q1 q2
  generalize (W7.alloc (.cells #[] 74)).setCell ⟨gb, 3, none⟩ (.slice (some ⟨W7.heap.size, 0, none⟩) 0 0) = W8 at S8 C8 FR8 ⊢
  go_wp2
  go_loopg [8, 9] (held.length + now.length) (fun gg s8 s9 wr => ∃ (i kk d : Nat) (acc : List S74) (vh' : Value), s8 = .int .i64 (kk : Int) ∧ s9 = .int .i64 (i : Int) ∧ Aside0 (i ≤ held.length ∧ kk ≤ now.length ∧ d = (held.length - i) + (now.length - kk) ∧ d ≤ gg ∧ acc.length = i + kk) ∧ Aside0 (acc ++ mg E d (held.drop i) (now.drop kk) = mg E (held.length + now.length) held now) ∧ Aside0 (St W5 w.heap.size gb (.slice B2 n3 d2) (.slice B3 n4 d3) (.slice B4 n5 d4) wr T (wrap64 (E + 1)) (.slice A7 n7 c7) vh' (.slice B4 n5 d4) (fr.take m) acc pins) ∧ Aside0 (Cb w #[.int .i64 T, .int .i64 E, .slice An now.length cn, .slice Ah held.length ch, .slice Ap pins.length cp] gs g4 g5 wr) ∧ Aside0 ((Kd.int .i64).R 3 wr w.heap.size (fun _ => True) (.slice Af fr.length cf) fr))
  case atStart => exact ⟨0, 0, _, [], _, rfl, rfl, ⟨Nat.zero_le _, Nat.zero_le _, rfl, by omega, rfl⟩, ⟨by simp⟩, S8, C8, FR8⟩
  case round =>
    clear S8 C8 FR8 S5
    obtain ⟨i, kk, d, acc, vh', rfl, rfl, HI, HMG, SS, CC, FR⟩ := hrel
    have hs1 := (blk_cell CC.out.s 1).trans (rfl : _ = some (Value.int .i64 E))
    have hs2 := (blk_cell CC.out.s 2).trans (rfl : _ = some (Value.slice An now.length cn))
    have hs3 := (blk_cell CC.out.s 3).trans (rfl : _ = some (Value.slice Ah held.length ch))
    have p1 : (0 : Int) ≤ (i : Int) := Int.natCast_nonneg i
    have p2 : (0 : Int) ≤ (kk : Int) := Int.natCast_nonneg kk
    by_cases hD : i < held.length ∨ kk < now.length
    · have HD := Aside0.mk hD
      go_upto_region 12 with (fail)
      go_cut [55] (fun s55 wx => s55 = .bool true ∧ Aside0 (Below wr.heap.size wr wx))
      case first =>
        by_cases hi : i < held.length
        · have ci : decide ((i : Int) < (held.length : Int)) = true := decide_eq_true (Int.ofNat_lt.2 hi)
          go_wp2_with fail
          go_meet
          exact ⟨rfl, ⟨Below.refl _ _⟩⟩
        · have ci : decide ((i : Int) < (held.length : Int)) = false := decide_eq_false (fun h => hi (Int.ofNat_lt.1 h))
          have ck : decide ((kk : Int) < (now.length : Int)) = true := decide_eq_true (Int.ofNat_lt.2 (hD.resolve_left hi))
          go_wp2_with fail
          go_meet
          exact ⟨by first | rfl | rw [decide_eq_true (HD.out.resolve_left hi)], ⟨Below.refl _ _⟩⟩
      case rest =>
        obtain ⟨rfl, DX⟩ := hcut
        have SS2 := Aside0.mk (SS.out.below CC.out.d.size DX.out)
        have CC2 := Aside0.mk (CC.out.below DX.out)
        have FR2 := Aside0.mk (Kd.R_below FR.out DX.out)
        clear SS CC FR hs1 hs2 hs3 hD DX
        obtain ⟨wo, hwo⟩ : ∃ wo, wo = wc := ⟨_, rfl⟩
        rw [← hwo] at SS2 CC2 FR2
        subst hwo
        have hs1 := (blk_cell CC2.out.s 1).trans (rfl : _ = some (Value.int .i64 E))
        have hs2 := (blk_cell CC2.out.s 2).trans (rfl : _ = some (Value.slice An now.length cn))
        have hs3 := (blk_cell CC2.out.s 3).trans (rfl : _ = some (Value.slice Ah held.length ch))
        go_upto_region 13 with (fail)
        go_cut [81] (fun s81 wx => s81 = .bool (bb held now i kk) ∧ Aside0 (Below wo.heap.size wo wx))
        case first =>
          by_cases hi : i < held.length
          · have hne : ¬ i = held.length := by omega
            have ci : ((i : Int) == (held.length : Int)) = false := beq_eq_false_iff_ne.2 (fun h => hne (Int.ofNat.inj h))
            by_cases hk : kk < now.length
            · have ck : decide ((kk : Int) < (now.length : Int)) = true := decide_eq_true (Int.ofNat_lt.2 hk)
              have r1 : (i : Int) < (held.length : Int) := Int.ofNat_lt.2 hi
              have r2 : (kk : Int) < (now.length : Int) := Int.ofNat_lt.2 hk
              obtain ⟨gh, eh, hx0, hx1⟩ := elem74 (HT.out.below CC2.out.d).h i hi
              obtain ⟨gn, en, hn0⟩ := elemI (HT.out.below CC2.out.d).n kk hk
              subst eh en
              have hbb : bb held now i kk = decide (now.getD kk 0 < (held.getD i z74).f0) := by unfold bb; rw [decide_eq_false hne, decide_eq_true hk, Bool.false_or, Bool.true_and]
              generalize now.getD kk 0 = xx at hn0 hbb
              generalize held.getD i z74 = hh at hx0 hx1 hbb
              have HBB := Aside0.mk hbb
              clear hbb
              go_quiet (fail)
              go_wp2_with fail
              go_meet
              exact ⟨by rw [HBB.out], ⟨pw_below_drewN (Below.refl _ _) _⟩⟩
            · have ck : decide ((kk : Int) < (now.length : Int)) = false := decide_eq_false (fun h => hk (Int.ofNat_lt.1 h))
              have hbb : bb held now i kk = false := by unfold bb; rw [decide_eq_false hne, decide_eq_false hk]; rfl
              have HBB := Aside0.mk hbb
              clear hbb
              go_quiet (fail)
              go_wp2_with fail
              go_meet
              exact ⟨by rw [HBB.out], ⟨pw_below_drewN (Below.refl _ _) _⟩⟩
          · have hie : i = held.length := by have := HI.out; omega
            have hbb : bb held now i kk = true := by unfold bb; rw [decide_eq_true hie]; rfl
            have HBB := Aside0.mk hbb
            have ci : ((i : Int) == (held.length : Int)) = true := by rw [hie]; exact beq_self_eq_true _
            clear hbb hie
            go_quiet (fail)
            go_wp2_with fail
            go_meet
            exact ⟨by rw [HBB.out], ⟨pw_below_drewN (Below.refl _ _) _⟩⟩
        case rest =>
          obtain ⟨rfl, DX⟩ := hcut
          have SS3 := Aside0.mk (SS2.out.below CC2.out.d.size DX.out)
          have CC3 := Aside0.mk (CC2.out.below DX.out)
          have FR3 := Aside0.mk (Kd.R_below FR2.out DX.out)
          clear SS2 CC2 FR2 hs1 hs2 hs3 DX
          obtain ⟨wo, hwo⟩ : ∃ wo, wo = wc := ⟨_, rfl⟩
          rw [← hwo] at SS3 CC3 FR3
          subst hwo
          have hs1 := (blk_cell CC3.out.s 1).trans (rfl : _ = some (Value.int .i64 E))
          have hs2 := (blk_cell CC3.out.s 2).trans (rfl : _ = some (Value.slice An now.length cn))
          have hs3 := (blk_cell CC3.out.s 3).trans (rfl : _ = some (Value.slice Ah held.length ch))
          obtain ⟨dd, hdd⟩ : ∃ dd, d = dd + 1 := ⟨d - 1, by have := HI.out; have := HD.out; omega⟩
          have HDD := Aside0.mk hdd
          have hst := mg_step E held now i kk dd HI.out.1 HI.out.2.1 (by have := HI.out; omega)
          rw [hdd] at HMG
          obtain ⟨Av, cv, ev⟩ := Kd.R_slice SS3.out.o.r.h
          generalize hnl : acc.length = nl at ev
          subst ev
          have HCP : Aside0 ((acc.length + 1) * 16 ≤ 140737488355328) := ⟨by have := HI.out; have := H5.out; have := H6.out; omega⟩
          have hz3 := (blk_cell SS3.out.o.box 3).trans (rfl : _ = some (Value.slice Av nl cv))
          clear hnl hdd
          cases hb2 : bb held now i kk with
          | true =>
            have hk := bb_true hb2 HD.out
            have HLT := Aside0.mk hk
            have hwn := wr1 kk now.length hk (by have := H5.out; omega)
            have r2 : (kk : Int) < (now.length : Int) := Int.ofNat_lt.2 hk
            rw [hb2, if_pos rfl] at hst
            obtain ⟨gn, en, hn0⟩ := elemI (HT.out.below CC3.out.d).n kk hk
            subst en
            generalize now.getD kk 0 = xx at hn0 hst
            have HST := Aside0.mk hst
            have hd3 := (blk_cell (blk_alloc SS3.out.o.box (.cells #[.int .i64 xx, .int .i64 E] 74)) 3).trans (rfl : _ = some (Value.slice Av nl cv))
            clear hst hk hb2
            go_upto_region 14 with (fail)
            go_region_law (refine Kd.R_append_step (W := wo.drew) k74 (w0 := wo) w.heap.size (by rfl) (.tmp 83) (.tmp 92) 29 74 (.agg #[.int .i64 0, .int .i64 0]) 16 rfl Try.underlying29 info74 rfl (by decide) (by omega) (.slice Av nl cv) acc (pg E xx) [.int .i64 xx, .int .i64 E] (fun _ => True) (fun _ => False) rfl rfl ?aP (fun _ h => h.elim) ?aF ?aO ?aB ?aS ?aL ?_; (case aP => exact k74_mkM _ _ _ (pg E xx)); (case aF => exact (fun _ _ => trivial)); (case aO => exact (by (with_reducible repeat (first | apply Kd.R_alloc | apply Kd.R_drewN | apply Kd.R_drew)); exact SS3.out.o.r.h)); (case aB => exact (by repeat (first | exact Below.refl _ _ | apply pw_below_drewN | apply below_drew1))); (case aS => exact CC3.out.d.size); (case aL => exact HCP.out); intro v1 w1 ho hB hg hat; obtain ⟨A1, d1, e1⟩ := Kd.R_slice ho; generalize List.length _ = n1 at e1; subst e1; have hbx := blk_grown (blk_drew SS3.out.o.box) hg (Kd.R_ne SS3.out.o.r.h SS3.out.o.box (by decide)); have hz5 := (blk_cell hbx 3).trans (rfl : _ = some (Value.slice Av nl cv)); have hf5 := blk_frozen hbx 3; have AP := Aside0.mk (And.intro ho (And.intro hB (And.intro hg (And.intro hat hbx)))); clear ho hB hg hat hbx)
            all_goals (
              have SS4 := Aside0.mk (SS3.out.toHeld AP.out.1 AP.out.2.1 (grown_kept' AP.out.2.2.1) (Move.hat AP.out.2.2.2.1))
              have CC4 := Aside0.mk ((CC3.out.held SS3.out.o.r.h AP.out.2.1 (grown_kept' AP.out.2.2.1)).set NG.out 3 (.slice A1 n1 d1))
              have FR4 := Aside0.mk (fr_far (j := 3) (u := .slice A1 n1 d1) (apart_ FR3.out SS3.out.o.r.h (grown_kept' AP.out.2.2.1)) AP.out.2.2.2.2)
              clear SS3 CC3 FR3 AP hz3 hd3 hs1 hs2 hs3 hn0
              go_wp2_with fail
              go_roundg (gk - 1)
              case measure => have := HI.out; have := HDD.out; omega
              case rel => exact ⟨i, kk + 1, dd, acc ++ [(pg E xx)], _, by first | rfl | go_num | (rw [hwn]; done), by first | rfl | go_num | (rw [hwn]; done), ⟨by have := HI.out; have := HDD.out; have := HLT.out; rw [List.length_append, List.length_singleton]; omega⟩, ⟨by rw [← HMG.out, HST.out, List.append_assoc]; rfl⟩, SS4, CC4, FR4⟩)
          | false =>
            have hi := bb_false hb2 HI.out.1
            have HLT := Aside0.mk hi
            have hwn := wr1 i held.length hi (by have := H6.out; omega)
            have r1 : (i : Int) < (held.length : Int) := Int.ofNat_lt.2 hi
            rw [hb2, if_neg (by decide)] at hst
            obtain ⟨gh, eh, hx0, hx1⟩ := elem74 (HT.out.below CC3.out.d).h i hi
            subst eh
            generalize held.getD i z74 = hh at hx0 hx1 hst
            have HST := Aside0.mk hst
            have hd3 := (blk_cell (blk_alloc SS3.out.o.box (.cells #[.int .i64 hh.f0, .int .i64 hh.f1] 74)) 3).trans (rfl : _ = some (Value.slice Av nl cv))
            clear hst hi hb2
            go_upto_region 16 with (fail)
            go_region_law (refine Kd.R_append_step (W := wo.drew) k74 (w0 := wo) w.heap.size (by rfl) (.tmp 98) (.tmp 104) 29 74 (.agg #[.int .i64 0, .int .i64 0]) 16 rfl Try.underlying29 info74 rfl (by decide) (by omega) (.slice Av nl cv) acc hh [.int .i64 hh.f0, .int .i64 hh.f1] (fun _ => True) (fun _ => False) rfl rfl ?aP (fun _ h => h.elim) ?aF ?aO ?aB ?aS ?aL ?_; (case aP => exact k74_mkM _ _ _ hh); (case aF => exact (fun _ _ => trivial)); (case aO => exact (by (with_reducible repeat (first | apply Kd.R_alloc | apply Kd.R_drewN | apply Kd.R_drew)); exact SS3.out.o.r.h)); (case aB => exact (by repeat (first | exact Below.refl _ _ | apply pw_below_drewN | apply below_drew1))); (case aS => exact CC3.out.d.size); (case aL => exact HCP.out); intro v1 w1 ho hB hg hat; obtain ⟨A1, d1, e1⟩ := Kd.R_slice ho; generalize List.length _ = n1 at e1; subst e1; have hbx := blk_grown (blk_drew SS3.out.o.box) hg (Kd.R_ne SS3.out.o.r.h SS3.out.o.box (by decide)); have hz5 := (blk_cell hbx 3).trans (rfl : _ = some (Value.slice Av nl cv)); have hf5 := blk_frozen hbx 3; have AP := Aside0.mk (And.intro ho (And.intro hB (And.intro hg (And.intro hat hbx)))); clear ho hB hg hat hbx)
            all_goals (
              have SS4 := Aside0.mk (SS3.out.toHeld AP.out.1 AP.out.2.1 (grown_kept' AP.out.2.2.1) (Move.hat AP.out.2.2.2.1))
              have CC4 := Aside0.mk ((CC3.out.held SS3.out.o.r.h AP.out.2.1 (grown_kept' AP.out.2.2.1)).set NG.out 3 (.slice A1 n1 d1))
              have FR4 := Aside0.mk (fr_far (j := 3) (u := .slice A1 n1 d1) (apart_ FR3.out SS3.out.o.r.h (grown_kept' AP.out.2.2.1)) AP.out.2.2.2.2)
              clear SS3 CC3 FR3 AP hz3 hd3 hs1 hs2 hs3 hx0 hx1
              go_wp2_with fail
              go_roundg (gk - 1)
              case measure => have := HI.out; have := HDD.out; omega
              case rel => exact ⟨i + 1, kk, dd, acc ++ [hh], _, by first | rfl | go_num | (rw [hwn]; done), by first | rfl | go_num | (rw [hwn]; done), ⟨by have := HI.out; have := HDD.out; have := HLT.out; rw [List.length_append, List.length_singleton]; omega⟩, ⟨by rw [← HMG.out, HST.out, List.append_assoc]; rfl⟩, SS4, CC4, FR4⟩)
    · have hie : i = held.length := by have := HI.out; omega
      have hke : kk = now.length := by have := HI.out; omega
      have ci : decide ((i : Int) < (held.length : Int)) = false := decide_eq_false (by omega)
      have ck : decide ((kk : Int) < (now.length : Int)) = false := decide_eq_false (by omega)
      have cin : decide (i < held.length) = false := decide_eq_false (by omega)
      have ckn : decide (kk < now.length) = false := decide_eq_false (by omega)
      have hacc : acc = mg E (held.length + now.length) held now := by
        rw [← HMG.out, hie, hke, List.drop_length, List.drop_length]
        have : mg E d [] [] = [] := by cases d <;> rfl
        rw [this, List.append_nil]
      have HACC := Aside0.mk hacc
      have HAL : Aside0 (acc.length ≤ 4194304) := ⟨by have := HI.out; have := H5.out; have := H6.out; omega⟩
      clear hacc hie hke hD
      obtain ⟨Av, cv, ev⟩ := Kd.R_slice SS.out.o.r.h
      generalize hnl : acc.length = nl at ev
      subst ev
      have hb0 := (blk_cell SS.out.o.box 0).trans (rfl : _ = some (Value.int .i64 T))
      have hb1 := (blk_cell SS.out.o.box 1).trans (rfl : _ = some (Value.int .i64 (wrap64 (E + 1))))
      have hb2 := (blk_cell SS.out.o.box 2).trans (rfl : _ = some (Value.slice A7 n7 c7))
      have hb3 := (blk_cell SS.out.o.box 3).trans (rfl : _ = some (Value.slice Av nl cv))
      have hb4 := (blk_cell SS.out.o.box 4).trans (rfl : _ = some (Value.slice B4 n5 d4))
      have HNL := Aside0.mk hnl
      clear hnl
      have hg4 : ¬ g4 = gb := NG.out.2.1
      have hg5 : ¬ g5 = gb := NG.out.2.2.1
      have hg4' : ¬ gb = g4 := fun e => hg4 e.symm
      have hg5' : ¬ gb = g5 := fun e => hg5 e.symm
      have hn45 : ¬ g4 = g5 := CC.out.n45
      have hn54 : ¬ g5 = g4 := fun e => CC.out.n45 e.symm
      have q1 : (0 : Int) ≤ (m : Int) := Int.natCast_nonneg m
      have q2 : (m : Int) ≤ (cf : Int) := Int.ofNat_le.2 (Nat.le_trans HM.out (Kd.R_reads' FR.out).2.1)
      have HFT : Aside0 ((fr.take m).length ≤ 4194304) := ⟨by rw [List.length_take]; have := H7.out; omega⟩
      have HCS := Aside0.mk CC.out.d.size
      go_upto_region 18 with (fail)
      clear hs1 hs2 hs3 HI HMG
      have hd0 := (blk_cell (blk_alloc SS.out.o.box (.cells #[] 3)) 0).trans (rfl : _ = some (Value.int .i64 T))
      have hd1 := (blk_cell (blk_alloc SS.out.o.box (.cells #[] 3)) 1).trans (rfl : _ = some (Value.int .i64 (wrap64 (E + 1))))
      have hd2 := (blk_cell (blk_alloc SS.out.o.box (.cells #[] 3)) 2).trans (rfl : _ = some (Value.slice A7 n7 c7))
      have hd3 := (blk_cell (blk_alloc SS.out.o.box (.cells #[] 3)) 3).trans (rfl : _ = some (Value.slice Av nl cv))
      have hd4 := (blk_cell (blk_alloc SS.out.o.box (.cells #[] 3)) 4).trans (rfl : _ = some (Value.slice B4 n5 d4))
      clear ci ck cin ckn
      have KS : Aside0 (∀ w', Below wr.heap.size wr w' → w'.cell? ⟨gb, 0, none⟩ = some (.int .i64 T) ∧ w'.cell? ⟨gb, 1, none⟩ = some (.int .i64 (wrap64 (E + 1))) ∧ w'.cell? ⟨gb, 2, none⟩ = some (.slice A7 n7 c7) ∧ w'.cell? ⟨gb, 3, none⟩ = some (.slice Av nl cv) ∧ w'.cell? ⟨gb, 4, none⟩ = some (.slice B4 n5 d4)) := ⟨fun w' d => have b := blk_below SS.out.o.box d; ⟨(blk_cell b 0).trans rfl, (blk_cell b 1).trans rfl, (blk_cell b 2).trans rfl, (blk_cell b 3).trans rfl, (blk_cell b 4).trans rfl⟩⟩
      go_region_held3 (fun w' => w'.cell? ⟨gb, 0, none⟩ = some (.int .i64 T) ∧ w'.cell? ⟨gb, 1, none⟩ = some (.int .i64 (wrap64 (E + 1))) ∧ w'.cell? ⟨gb, 2, none⟩ = some (.slice A7 n7 c7) ∧ w'.cell? ⟨gb, 3, none⟩ = some (.slice Av nl cv) ∧ w'.cell? ⟨gb, 4, none⟩ = some (.slice B4 n5 d4)) (first | (refine KS.out _ ?_; with_reducible (repeat (first | exact Below.refl _ _ | exact BV.out | exact BW7.out | apply below_alloc | apply pw_below_drewN | apply below_drew1)); done) | go_keep)
        (first
          | (go_at_call 46; (with_reducible refine (Srel.rel w.heap.size _ T (wrap64 (E + 1)) (.slice A7 n7 c7) (.slice Av nl cv) (.slice B4 n5 d4) (fr.take m) acc pins ?hb ?ht ?l1 ?l2 ?l3).mono ?_); (case hb => exact Nat.le_trans HCS.out (Below.size (by repeat (first | exact Below.refl wr.heap.size wr | apply below_alloc | apply pw_below_drewN | apply below_drew1)))); (case ht => exact SS.out.o.r.below (by repeat (first | exact Below.refl _ _ | apply below_alloc | apply pw_below_drewN | apply below_drew1))); (case l1 => exact HFT.out); (case l2 => exact HAL.out); (case l3 => have := H8.out; omega); rintro e w6 ⟨u2, u3, u4, rfl, ht, hB⟩; obtain ⟨D2, f2, e2⟩ := Kd.R_slice ht.n; obtain ⟨D3, f3, e3⟩ := Kd.R_slice ht.h; obtain ⟨D4, f4, e4⟩ := Kd.R_slice ht.p; generalize List.length _ = m2 at e2; generalize List.length _ = m3 at e3; generalize List.length _ = m4 at e4; subst e2 e3 e4; have T6 := Aside0.mk ht; have BV := Aside0.mk (below_step (w := wr) (by repeat (first | exact Below.refl _ _ | apply below_alloc | apply pw_below_drewN | apply below_drew1)) hB); (try have HE := Aside0.mk (blk_below (blk_new wr (.cells #[] 3)) hB)); (try have HE := Aside0.mk (blk_below (blk_new wr (.cells #[] 3)) (undrew hB))); have O6 := Aside0.mk (SS.out.o.below BV.out); clear ht hB)
          | (refine Kd.R_append_rows_step (W := w6) (Kd.int .i64) (w0 := wr) wr.heap.size (by rfl) (.tmp 111) (.tmp 114) 22 3 (.int .i64 0) 8 rfl Try.underlying22 info3 rfl (by decide) (by omega) (.slice (some ⟨wr.heap.size, 0, none⟩) 0 0) [] (fr.take m) Af m cf (fun _ => True) (fun _ => False) rfl rfl ?aO ?aR (fun _ _ h => h) (fun _ h => h.elim) ?aF ?aB ?aS ?aL ?_; (case aO => exact Room.empty (Kd.int .i64) 3 _ _ _ _ HE.out (Nat.le_refl _) trivial); (case aR => exact frC (Kd.R_below FR.out BV.out) HM.out); (case aF => exact (fun _ _ => trivial)); (case aB => exact BV.out); (case aS => exact BV.out.size); (case aL => simp only [List.length_nil]; exact HM8.out); intro v7 w7 ho hB hg hat; obtain ⟨D7, f7, e7⟩ := Kd.R_slice ho; generalize List.length _ = m7 at e7; subst e7; have R7 := Aside0.mk (Kd.R_lower ho HCS.out); have T7 := Aside0.mk (Trio.lower (b' := w.heap.size) (T6.out.far (H := wr.heap.size) hg (show wr.heap.size < (wr.alloc (.cells #[] 3)).heap.size by rw [World.size_alloc]; exact Nat.lt_succ_self _)) (Nat.le_trans HCS.out (show wr.heap.size ≤ (wr.alloc (.cells #[] 3)).heap.size by rw [World.size_alloc]; exact Nat.le_succ _))); have C7 := Aside0.mk (CC.out.below hB); have hy0 := (blk_cell C7.out.r4 0).trans (rfl : _ = some (Value.int .i64 0)); have hy1 := (blk_cell C7.out.r4 1).trans (rfl : _ = some (Value.int .i64 0)); have hy2 := (blk_cell C7.out.r4 2).trans (rfl : _ = some (Value.slice none 0 0)); have hy3 := (blk_cell C7.out.r4 3).trans (rfl : _ = some (Value.slice none 0 0)); have hy4 := (blk_cell C7.out.r4 4).trans (rfl : _ = some (Value.slice none 0 0)); have hx0 := (blk_cell C7.out.r5 0).trans (rfl : _ = some (Value.int .i64 0)); have hx1 := (blk_cell C7.out.r5 1).trans (rfl : _ = some (Value.slice none 0 0)); have hfy := blk_frozen C7.out.r4; have hfx := blk_frozen C7.out.r5; have O7 := Aside0.mk (SS.out.o.below hB); have BW7 := Aside0.mk hB; clear ho hB hg hat)
          | (refine Kd.R_append_rows_step (W := w6.alloc (.cells #[] 3)) (Kd.int .i64) (w0 := wr) wr.heap.size (by rfl) (.tmp 111) (.tmp 114) 22 3 (.int .i64 0) 8 rfl Try.underlying22 info3 rfl (by decide) (by omega) (.slice (some ⟨w6.heap.size, 0, none⟩) 0 0) [] (fr.take m) Af m cf (fun _ => True) (fun _ => False) rfl rfl ?aO ?aR (fun _ _ h => h) (fun _ h => h.elim) ?aF ?aB ?aS ?aL ?_; (case aO => exact Room.empty (Kd.int .i64) 3 _ _ _ _ (blk_new w6 (.cells #[] 3)) BV.out.size trivial); (case aR => exact frC (Kd.R_below FR.out (below_alloc BV.out _)) HM.out); (case aF => exact (fun _ _ => trivial)); (case aB => exact below_alloc BV.out _); (case aS => exact (below_alloc BV.out _).size); (case aL => simp only [List.length_nil]; exact HM8.out); intro v7 w7 ho hB hg hat; obtain ⟨D7, f7, e7⟩ := Kd.R_slice ho; generalize List.length _ = m7 at e7; subst e7; have R7 := Aside0.mk (Kd.R_lower ho HCS.out); have T7 := Aside0.mk (Trio.lower (b' := w.heap.size) (T6.out.below (Below.grown (B := w6.heap.size) (below_alloc (Below.refl _ _) (.cells #[] 3)) hg (by rw [World.size_alloc]; exact Nat.le_succ _) (fun k_ hk_ => Nat.le_of_eq (by simpa [Value.ownBlock] using hk_)))) HCS.out); have C7 := Aside0.mk (CC.out.below hB); have hy0 := (blk_cell C7.out.r4 0).trans (rfl : _ = some (Value.int .i64 0)); have hy1 := (blk_cell C7.out.r4 1).trans (rfl : _ = some (Value.int .i64 0)); have hy2 := (blk_cell C7.out.r4 2).trans (rfl : _ = some (Value.slice none 0 0)); have hy3 := (blk_cell C7.out.r4 3).trans (rfl : _ = some (Value.slice none 0 0)); have hy4 := (blk_cell C7.out.r4 4).trans (rfl : _ = some (Value.slice none 0 0)); have hx0 := (blk_cell C7.out.r5 0).trans (rfl : _ = some (Value.int .i64 0)); have hx1 := (blk_cell C7.out.r5 1).trans (rfl : _ = some (Value.slice none 0 0)); have hfy := blk_frozen C7.out.r4; have hfx := blk_frozen C7.out.r5; have O7 := Aside0.mk (SS.out.o.below hB); have BW7 := Aside0.mk hB; clear ho hB hg hat))
      all_goals (
        go_wp2_with fail
        obtain ⟨t1, t2, t3, t4, t5⟩ := C7.out.told T (wrap64 (E + 1)) 0 (.slice D2 m2 f2) (.slice D3 m3 f3) (.slice D4 m4 f4) (.slice D7 m7 f7)
        have hacc := HACC.out
        subst hacc
        refine bodyPost_ret (results_cc rfl _ _ g4 g5 31 33 #[.int .i64 T, .int .i64 (wrap64 (E + 1)), .slice D2 m2 f2, .slice D3 m3 f3, .slice D4 m4 f4] #[.int .i64 0, .slice D7 m7 f7] (0, 0) (0, 0) _ _ rfl t1 Try.underlying31 rfl (by kernel_rfl) rfl t2 Try.underlying33 rfl (by kernel_rfl)) rfl ?_
        exact ⟨⟨_, _, _, _, rfl, (t4 T7.out).lower HBW.out, t5 R7.out, t3⟩⟩)
end Go.Proofs.Ytcnkacbgcmnokaa.XR.Scom
