-- Written for this claim: a contract of one function, proved by hand; the places of its template filled by a program.
import Derived.Test.YtcnkacbgcmnokaaXA0
import Derived.Test.YtcnkacbgcmnokaaXA3
import Derived.Lib.SlBy
import Derived.Lib.Walk
import Derived.Shelf.Abstract
namespace Go.Proofs.Ytcnkacbgcmnokaa.XA
open Go Go.RowKit Go.Proofs.YtcnkacbgcmnokaaW.PrintWords Go.Proofs.YtcnkacbgcmnokaaW.PrintLast Go.Proofs.YtcnkacbgcmnokaaW.PrintMore
set_option linter.unusedVariables false
set_option linter.unusedSimpArgs false
open Go.Proofs.Ytcnkacbgcmnokaa.Xtra
def spec_SpaceOK.win (x lo hi : Int) : Bool := (spec_l01In.f x lo hi).getD false
theorem spec_SpaceOK.win_some (x lo hi : Int) : spec_l01In.f x lo hi = some (spec_SpaceOK.win x lo hi) := by
  unfold spec_SpaceOK.win spec_l01In.f
  split <;> rfl
theorem spec_SpaceOK.win_iff (x lo hi : Int) : spec_SpaceOK.win x lo hi = true ↔ lo ≤ x ∧ x ≤ hi := by
  unfold spec_SpaceOK.win spec_l01In.f
  by_cases h : x ≥ lo
  · rw [if_pos h]; simp; intro _; omega
  · rw [if_neg h]; simp; omega
theorem spec_SpaceOK.infob : (Try.prog.info? 4).map (fun i => (i.zero, i.size, i.bytes)) = some (some (.bool false), 1, 1) := by kernel_rfl
/-- What is asked of one number of now, one held page, one pin. -/
def spec_SpaceOK.k2 (t : Int) (l : List Int) (i : Nat) : Bool := spec_SpaceOK.win (rd l (i : Int)) 0 (wrap64 (t - 1)) && (!decide (rd l (i : Int) ∈ l.take i) && (!decide (0 < i) || !decide (rd l (i : Int) ≤ rd l ((i : Int) - 1))))
def spec_SpaceOK.k3 (t ep : Int) (l2 : List Int) (l : List S74) (i : Nat) : Bool := spec_SpaceOK.win (rd_T74 l (i : Int)).f0 0 (wrap64 (t - 1)) && (!decide ((rd_T74 l (i : Int)).f0 ∈ l2 ++ (l.take i).map (·.f0)) && (spec_SpaceOK.win (rd_T74 l (i : Int)).f1 0 (wrap64 (ep - 1)) && (!decide (0 < i) || !decide ((rd_T74 l (i : Int)).f0 ≤ (rd_T74 l ((i : Int) - 1)).f0))))
def spec_SpaceOK.k4 (ep : Int) (l : List Int) (i : Nat) : Bool := spec_SpaceOK.win (rd l (i : Int)) 0 ep
def spec_SpaceOK.f (a0_0 a0_1 : Int) (l0_2 : List Int) (l0_3 : List S74) (l0_4 : List Int) : Option Bool :=
  some (spec_SpaceOK.win a0_0 1 64 && (spec_SpaceOK.win a0_1 0 1000000 && (!decide (a0_0 < wrap64 ((l0_2.length : Int) + (l0_3.length : Int))) && (!decide ((4 : Int) < (l0_4.length : Int)) && ((List.range l0_2.length).all (spec_SpaceOK.k2 a0_0 l0_2) && ((List.range l0_3.length).all (spec_SpaceOK.k3 a0_0 a0_1 l0_2 l0_3) && (List.range l0_4.length).all (spec_SpaceOK.k4 a0_1 l0_4)))))))
theorem spec_SpaceOK.all_miss (p : Nat → Bool) (n kk : Nat) (h : kk < n) (hb : p kk = false) : (List.range n).all p = false := by
  rw [List.all_eq_false]
  exact ⟨kk, by simpa using h, by simpa using hb⟩
theorem spec_SpaceOK.all_hit (p : Nat → Bool) (n : Nat) (h : ∀ j, j < n → p j = true) : (List.range n).all p = true := by
  rw [List.all_eq_true]
  exact fun j hj => h j (by simpa using hj)
def spec_SpaceOK.Seen (t : Int) (b : List Bool) (S : List Int) : Prop := ∀ p : Int, 0 ≤ p → p < t → rdOf false b p = decide (p ∈ S)
theorem spec_SpaceOK.Seen.start (t : Int) : spec_SpaceOK.Seen t (List.replicate t.toNat false) [] := by
  intro p h0 h1
  have : p.toNat < t.toNat := by omega
  simp [rdOf, List.getD_eq_getElem?_getD, List.getElem?_replicate, this]
theorem spec_SpaceOK.Seen.step {t : Int} {b : List Bool} {S : List Int} (h : spec_SpaceOK.Seen t b S) (hl : b.length = t.toNat) (x : Int) (h0 : 0 ≤ x) (h1 : x < t) : spec_SpaceOK.Seen t (b.set x.toNat true) (S ++ [x]) := by
  intro p hp0 hp1
  have hb := h p hp0 hp1
  have hpl : p.toNat < b.length := by omega
  have hxl : x.toNat < b.length := by omega
  by_cases e : p = x
  · subst e
    simp [rdOf, List.getD_eq_getElem?_getD, List.getElem?_set, hxl]
  · have hne : x.toNat ≠ p.toNat := by omega
    simp only [rdOf, List.getD_eq_getElem?_getD] at hb ⊢
    rw [List.getElem?_set, if_neg hne, hb]
    simp [e]
set_option maxHeartbeats 16000000 in
set_option maxRecDepth 100000 in
theorem spec_SpaceOK.calls (a0_0 a0_1 : Int) (A0_2 : Option Addr) (c0_2 : Nat) (l0_2 : List Int) (A0_3 : Option Addr) (c0_3 : Nat) (l0_3 : List S74) (A0_4 : Option Addr) (c0_4 : Nat) (l0_4 : List Int) (r : Bool) (w : World) (hr0_2 : Kd.C (Kd.int .i64) w A0_2 l0_2.length l0_2) (hc0_2 : l0_2.length ≤ c0_2) (hr0_3 : Kd.C k74 w A0_3 l0_3.length l0_3) (hc0_3 : l0_3.length ≤ c0_3) (hr0_4 : Kd.C (Kd.int .i64) w A0_4 l0_4.length l0_4) (hc0_4 : l0_4.length ≤ c0_4) (h : spec_SpaceOK.f a0_0 a0_1 l0_2 l0_3 l0_4 = some r) :
    Calls Try.prog 27 #[.agg #[.int .i64 a0_0, .int .i64 a0_1, .slice A0_2 l0_2.length c0_2, .slice A0_3 l0_3.length c0_3, .slice A0_4 l0_4.length c0_4]] w fun e w' => e = .returned (.bool r) ∧ Below w.heap.size w w' := by
  have hu := Try.underlying31
  have hud := Try.underlying74
  obtain rfl := Option.some.inj h
  clear h
  have hm2 : l0_2.length ≤ 9223372036854775807 := hr0_2.2.1
  have hm3 : l0_3.length ≤ 9223372036854775807 := hr0_3.2.1
  have hm4 : l0_4.length ≤ 9223372036854775807 := hr0_4.2.1
  have HR2 := Aside0.mk hr0_2
  have HR3 := Aside0.mk hr0_3
  have HR4 := Aside0.mk hr0_4
  clear hr0_2 hr0_3 hr0_4
  have hwa := spec_SpaceOK.win_some a0_0 1 64
  have hwt := (spec_SpaceOK.win_iff a0_0 1 64).1
  have hwb := spec_SpaceOK.win_some a0_1 0 1000000
  generalize spec_SpaceOK.win a0_0 1 64 = b1 at hwa hwt ⊢
  generalize spec_SpaceOK.win a0_1 0 1000000 = b2 at hwb ⊢
  have HWA := Aside0.mk hwa
  have HWB := Aside0.mk hwb
  have HWT := Aside0.mk hwt
  clear hwa hwb hwt
  generalize hb3 : decide (a0_0 < wrap64 ((l0_2.length : Int) + (l0_3.length : Int))) = b3
  have hb3' : decide (a0_0 < IntKind.i64.wrap ((l0_2.length : Int) + (l0_3.length : Int))) = b3 := by rw [i64_w]; exact hb3
  generalize hb4 : decide ((4 : Int) < (l0_4.length : Int)) = b4
  have B0 := Aside0.mk (below_alloc (Below.refl w.heap.size w) (.cells #[.int .i64 a0_0, .int .i64 a0_1, .slice A0_2 l0_2.length c0_2, .slice A0_3 l0_3.length c0_3, .slice A0_4 l0_4.length c0_4] 31 (0, 0)))
  have BK0 := Aside0.mk (blk_new w (.cells #[.int .i64 a0_0, .int .i64 a0_1, .slice A0_2 l0_2.length c0_2, .slice A0_3 l0_3.length c0_3, .slice A0_4 l0_4.length c0_4] 31 (0, 0)))
  go_enter Try.func27, Try.ntmps27
  go_upto_region 1 with (fail)
  obtain ⟨gb, hgb⟩ : ∃ gb, gb = w.heap.size := ⟨_, rfl⟩
  rw [← hgb] at BK0 ⊢
  clear hgb
  obtain ⟨W1, hW1⟩ : ∃ W1, W1 = w.alloc (.cells #[.int .i64 a0_0, .int .i64 a0_1, .slice A0_2 l0_2.length c0_2, .slice A0_3 l0_3.length c0_3, .slice A0_4 l0_4.length c0_4] 31 (0, 0)) := ⟨_, rfl⟩
  rw [← hW1] at BK0 B0 ⊢
  clear hW1
  have hcz0 : W1.cell? ⟨gb, 0, none⟩ = some (.int .i64 a0_0) := (blk_cell BK0.out 0).trans rfl
  have hcz1 : W1.cell? ⟨gb, 1, none⟩ = some (.int .i64 a0_1) := (blk_cell BK0.out 1).trans rfl
  have hcz2 : W1.cell? ⟨gb, 2, none⟩ = some (.slice A0_2 l0_2.length c0_2) := (blk_cell BK0.out 2).trans rfl
  have hcz3 : W1.cell? ⟨gb, 3, none⟩ = some (.slice A0_3 l0_3.length c0_3) := (blk_cell BK0.out 3).trans rfl
  have hcz4 : W1.cell? ⟨gb, 4, none⟩ = some (.slice A0_4 l0_4.length c0_4) := (blk_cell BK0.out 4).trans rfl
  cases b1 with
  | false =>
    go_wp2_with ((go_at_call 44; (with_reducible refine (spec_l01In.calls a0_0 1 64 _ _ HWA.out).mono ?_); rintro e w' ⟨rfl, ⟨nd, rfl⟩⟩))
    go_ret
    exact ⟨by simp, (by repeat (first | exact B0.out | apply below_alloc | apply pw_below_drewN | apply below_drew1))⟩
  | true =>
  cases b2 with
  | false =>
    go_wp2_with (first | (go_at_call 44; (with_reducible refine (spec_l01In.calls a0_0 1 64 _ _ HWA.out).mono ?_); rintro e w' ⟨rfl, ⟨nd, rfl⟩⟩) | (go_at_call 44; (with_reducible refine (spec_l01In.calls a0_1 0 1000000 _ _ HWB.out).mono ?_); rintro e w' ⟨rfl, ⟨nd, rfl⟩⟩))
    go_ret
    exact ⟨by simp, (by repeat (first | exact B0.out | apply below_alloc | apply pw_below_drewN | apply below_drew1))⟩
  | true =>
  cases b3 with
  | true =>
    go_wp2_with (first | (go_at_call 44; (with_reducible refine (spec_l01In.calls a0_0 1 64 _ _ HWA.out).mono ?_); rintro e w' ⟨rfl, ⟨nd, rfl⟩⟩) | (go_at_call 44; (with_reducible refine (spec_l01In.calls a0_1 0 1000000 _ _ HWB.out).mono ?_); rintro e w' ⟨rfl, ⟨nd, rfl⟩⟩))
    go_ret
    exact ⟨by simp, (by repeat (first | exact B0.out | apply below_alloc | apply pw_below_drewN | apply below_drew1))⟩
  | false =>
  cases b4 with
  | true =>
    go_wp2_with (first | (go_at_call 44; (with_reducible refine (spec_l01In.calls a0_0 1 64 _ _ HWA.out).mono ?_); rintro e w' ⟨rfl, ⟨nd, rfl⟩⟩) | (go_at_call 44; (with_reducible refine (spec_l01In.calls a0_1 0 1000000 _ _ HWB.out).mono ?_); rintro e w' ⟨rfl, ⟨nd, rfl⟩⟩))
    go_ret
    exact ⟨by simp, (by repeat (first | exact B0.out | apply below_alloc | apply pw_below_drewN | apply below_drew1))⟩
  | false =>
  have ht := HWT.out rfl
  have ht0 : 1 ≤ a0_0 := ht.1
  have ht1 : a0_0 ≤ 64 := ht.2
  have ht2 : 0 ≤ a0_0 := by omega
  have ht3 : a0_0.toNat ≤ 281474976710656 := by omega
  clear ht HWT
  go_wp2_with (first | (go_at_call 44; (with_reducible refine (spec_l01In.calls a0_0 1 64 _ _ HWA.out).mono ?_); rintro e w' ⟨rfl, ⟨nd, rfl⟩⟩) | (go_at_call 44; (with_reducible refine (spec_l01In.calls a0_1 0 1000000 _ _ HWB.out).mono ?_); rintro e w' ⟨rfl, ⟨nd, rfl⟩⟩) | ((with_reducible refine gate_dst (N := 38) rfl ?_); (try (refine gate_guard (by rfl) ?_; dsimp only)); refine Kd.R_make Kd.bool _ 4 rfl (N := 38) rfl 72 _ _ rfl a0_0 rfl rfl Try.underlying72 (.bool false) 1 spec_SpaceOK.infob rfl (by decide) (by omega) false (ok := fun _ => True) (okp := fun _ => True) rfl (fun _ hk => hk) trivial ht2 (Nat.le_trans (Nat.mul_le_mul_right _ ht3) (by omega)) (Below.refl _ _) (Nat.le_refl _) ?_; intro v38 w38 ho hb hg_ hnew_; clear hg_ hnew_; have BK1 := Aside0.mk (blk_below (by (with_reducible repeat (first | refine blk_drewN ?_ _ | refine blk_drew ?_ | refine blk_alloc ?_ _)); exact BK0.out) hb); have D1 := Aside0.mk (below_step (by repeat (first | exact B0.out | apply below_alloc | apply pw_below_drewN | apply below_drew1)) hb); have HO1 := Aside0.mk (Kd.R_lower ho (below_size (by repeat (first | exact B0.out | apply below_alloc | apply pw_below_drewN | apply below_drew1)))); clear ho hb))
  obtain ⟨go, co, eo, gq, glt, glc⟩ := Kd.R_form HO1.out (by simp; omega)
  obtain ⟨n, hn⟩ : ∃ n, n = a0_0.toNat := ⟨_, rfl⟩
  have hln : (List.replicate a0_0.toNat false).length = n := by rw [hn]; simp
  rw [hln] at eo
  subst eo
  have hnz : (n : Int) = a0_0 := by omega
  have HN := Aside0.mk hnz
  have HL0 := Aside0.mk hln
  have GQ := Aside0.mk gq
  have hxn : ∀ x : Int, x < a0_0 → x < (n : Int) := fun x hx => by omega
  have HXN := Aside0.mk hxn
  have hnt : a0_0.toNat = n := hn.symm
  have HNT := Aside0.mk hnt
  clear hnz hln gq glt glc hxn hn hnt hcz0 hcz1 hcz2 hcz3 hcz4 hb3 hb3' hb4
  have hwe : IntKind.i64.wrap (a0_0 - 1) = a0_0 - 1 := by rw [i64_w]; unfold wrap64; omega
  have hwe2 : wrap64 (a0_0 - 1) = a0_0 - 1 := by unfold wrap64; omega
  have HWE := Aside0.mk hwe2
  have HWF := Aside0.mk hwe
  clear hwe hwe2
  go_loopg [4] l0_2.length (fun gg sl wr => ∃ (kk : Nat) (b : List Bool), kk ≤ l0_2.length ∧ l0_2.length - kk ≤ gg ∧ sl = .int .i64 kk ∧ Aside0 (b.length = n) ∧ Aside0 (Kd.R Kd.bool 4 wr w.heap.size (fun _ => True) (.slice (some ⟨go, 0, none⟩) n co) b) ∧ Aside0 (spec_SpaceOK.Seen a0_0 b (l0_2.take kk)) ∧ Aside0 (wr.heap[gb]? = some (.cells #[.int .i64 a0_0, .int .i64 a0_1, .slice A0_2 l0_2.length c0_2, .slice A0_3 l0_3.length c0_3, .slice A0_4 l0_4.length c0_4] 31 (0, 0))) ∧ Aside0 (Below w.heap.size w wr) ∧ Aside0 (∀ j, j < kk → spec_SpaceOK.k2 a0_0 l0_2 j = true))
  case atStart => exact ⟨0, _, Nat.zero_le _, by omega, rfl, HL0, ⟨HO1.out⟩, ⟨by simpa using spec_SpaceOK.Seen.start a0_0⟩, BK1, D1, ⟨fun j hj => absurd hj (Nat.not_lt_zero _)⟩⟩
  case round =>
    obtain ⟨kk, b, hkk, hg, rfl, HL, HO, SI, BK, D, B⟩ := hrel
    have hcz0 : wr.cell? ⟨gb, 0, none⟩ = some (.int .i64 a0_0) := (blk_cell BK.out 0).trans rfl
    have hcz1 : wr.cell? ⟨gb, 1, none⟩ = some (.int .i64 a0_1) := (blk_cell BK.out 1).trans rfl
    have hcz2 : wr.cell? ⟨gb, 2, none⟩ = some (.slice A0_2 l0_2.length c0_2) := (blk_cell BK.out 2).trans rfl
    have hcz3 : wr.cell? ⟨gb, 3, none⟩ = some (.slice A0_3 l0_3.length c0_3) := (blk_cell BK.out 3).trans rfl
    have hcz4 : wr.cell? ⟨gb, 4, none⟩ = some (.slice A0_4 l0_4.length c0_4) := (blk_cell BK.out 4).trans rfl
    by_cases hlt : kk < l0_2.length
    · have hltz : (kk : Int) < (l0_2.length : Int) := by omega
      have hltb : decide ((kk : Int) < (l0_2.length : Int)) = true := decide_eq_true hltz
      obtain ⟨ad, e2, hx0⟩ := Kd.at_int (Kd.C_below HR2.out D.out) (kk : Int) (by omega) hltz
      cases e2
      rw [Int.toNat_natCast] at hx0
      have hp : kk = 0 ∨ (0 < kk ∧ ∃ y, rd l0_2 ((kk : Int) - 1) = y ∧ wr.cell? (ad.add (kk - 1)) = some (.int .i64 y)) := by
        rcases Nat.eq_zero_or_pos kk with e | e
        · exact .inl e
        · refine .inr ⟨e, _, rfl, ?_⟩
          obtain ⟨ad2, e2, hy0⟩ := Kd.at_int (Kd.C_below HR2.out D.out) ((kk : Int) - 1) (by omega) (by omega)
          obtain rfl := Option.some.inj e2
          rw [show ((kk : Int) - 1).toNat = kk - 1 by omega] at hy0
          exact hy0
      have hwr : spec_SpaceOK.k2 a0_0 l0_2 kk = (spec_SpaceOK.win (rd l0_2 (kk : Int)) 0 (wrap64 (a0_0 - 1)) && (!decide (rd l0_2 (kk : Int) ∈ l0_2.take kk) && (!decide (0 < kk) || !decide (rd l0_2 (kk : Int) ≤ rd l0_2 ((kk : Int) - 1))))) := rfl
      have htk : l0_2.take (kk + 1) = l0_2.take kk ++ [rd l0_2 (kk : Int)] := by rw [List.take_succ_eq_append_getElem hlt]; simp [rd, List.getD_eq_getElem?_getD, List.getElem?_eq_getElem hlt]
      obtain ⟨x, hx⟩ : ∃ x, x = rd l0_2 (kk : Int) := ⟨_, rfl⟩
      rw [← hx] at hx0 hwr htk
      clear hx
      rw [HWE.out] at hwr
      have hws := spec_SpaceOK.win_some x 0 (a0_0 - 1)
      have hwi := (spec_SpaceOK.win_iff x 0 (a0_0 - 1)).1
      generalize spec_SpaceOK.win x 0 (a0_0 - 1) = k1 at hws hwi hwr
      have HW := Aside0.mk hws
      have HWR := Aside0.mk hwr
      have HP := Aside0.mk hp
      have HWI := Aside0.mk hwi
      have HTK := Aside0.mk htk
      clear hws hwr hp hwi htk
      have hwe := HWF.out
      cases k1 with
      | false =>
        go_upto_region 7 with (fail)
        repeat (go_quiet ((go_at_call 44; (try simp only [hwe]); (with_reducible refine (spec_l01In.calls x 0 (a0_0 - 1) false _ HW.out).mono ?_); rintro e w' ⟨rfl, ⟨nd, rfl⟩⟩; (try first | exact ⟨rfl, _, World.drewN_drewN _ _ _⟩ | exact ⟨rfl, _, Eq.trans (World.drewN_drewN _ _ _) (congrArg (World.drewN _) (Nat.add_assoc _ _ _))⟩))); try go_wp2)
        go_ret
        refine ⟨?_, by repeat (first | exact D.out | apply below_alloc | apply pw_below_drewN | apply below_drew1)⟩
        rw [spec_SpaceOK.all_miss (spec_SpaceOK.k2 a0_0 l0_2) _ kk hlt (by rw [HWR.out]; simp)]
        simp
      | true =>
        have hx1 := (HWI.out rfl).1
        have HX1 := Aside0.mk hx1
        have hx5 : x < a0_0 := by have := (HWI.out rfl).2; omega
        have HX2 := Aside0.mk hx5
        clear hx5
        have hx2 : x < (n : Int) := HXN.out x (by have := (HWI.out rfl).2; omega)
        obtain ⟨hs0, hsf⟩ := Kd.R_celln false HO.out x hx1 hx2
        rw [SI.out x hx1 (by have := (HWI.out rfl).2; omega)] at hs0
        generalize hk2 : decide (x ∈ l0_2.take kk) = k2 at hs0
        have HK2 := Aside0.mk hk2
        clear hk2
        cases k2 with
        | true =>
          go_upto_region 7 with (fail)
          repeat (go_quiet ((go_at_call 44; (try simp only [hwe]); (with_reducible refine (spec_l01In.calls x 0 (a0_0 - 1) true _ HW.out).mono ?_); rintro e w' ⟨rfl, ⟨nd, rfl⟩⟩; (try first | exact ⟨rfl, _, World.drewN_drewN _ _ _⟩ | exact ⟨rfl, _, Eq.trans (World.drewN_drewN _ _ _) (congrArg (World.drewN _) (Nat.add_assoc _ _ _))⟩))); try go_wp2)
          go_ret
          refine ⟨?_, by repeat (first | exact D.out | apply below_alloc | apply pw_below_drewN | apply below_drew1)⟩
          rw [spec_SpaceOK.all_miss (spec_SpaceOK.k2 a0_0 l0_2) _ kk hlt (by rw [HWR.out]; rw [HK2.out]; simp)]
          simp
        | false =>
          rcases HP.out with e | ⟨e, y, hye, hy⟩
          · have k5b : decide ((0 : Int) < (kk : Int)) = false := decide_eq_false (by omega)
            have k5n : decide (0 < kk) = false := decide_eq_false (by omega)
            clear e
            go_upto_region 7 with (fail)
            repeat (go_quiet ((go_at_call 44; (try simp only [hwe]); (with_reducible refine (spec_l01In.calls x 0 (a0_0 - 1) true _ HW.out).mono ?_); rintro e w' ⟨rfl, ⟨nd, rfl⟩⟩; (try first | exact ⟨rfl, _, World.drewN_drewN _ _ _⟩ | exact ⟨rfl, _, Eq.trans (World.drewN_drewN _ _ _) (congrArg (World.drewN _) (Nat.add_assoc _ _ _))⟩))); try go_wp2)
            go_roundg (l0_2.length - (kk + 1))
            case measure => omega
            case rel =>
              refine ⟨kk + 1, b.set x.toNat true, by omega, by omega, by go_num, ⟨by rw [List.length_set]; exact HL.out⟩, ⟨Kd.R_putn (by (with_reducible repeat (first | apply Kd.R_alloc | apply Kd.R_drewN | apply Kd.R_drew)); exact HO.out) x true⟩, ⟨by rw [HTK.out]; exact SI.out.step (by rw [HL.out, HNT.out]) x HX1.out HX2.out⟩, ⟨?_⟩, ⟨?_⟩, ⟨fun j hj => ?_⟩⟩
              · refine blk_far (?_ : _ = some _) (by intro e; exact Kd.R_ne HO.out BK.out (by decide) (by rw [e]; rfl)) _
                (with_reducible repeat (first | refine blk_drewN ?_ _ | refine blk_drew ?_ | refine blk_alloc ?_ _))
                exact BK.out
              · refine below_set ?_ GQ.out
                repeat (first | exact D.out | apply below_alloc | apply pw_below_drewN | apply below_drew1)
              · by_cases e : j = kk
                · subst e
                  rw [HWR.out]
                  rw [HK2.out]; simp [k5n]
                · exact B.out j (by omega)
          · have k5b : decide ((0 : Int) < (kk : Int)) = true := decide_eq_true (by omega)
            have k5n : decide (0 < kk) = true := decide_eq_true (by omega)
            have k6 : IntKind.i64.wrap ((kk : Int) - 1) = (kk : Int) - 1 := by rw [i64_w]; unfold wrap64; omega
            have k7 : ((kk : Int) - 1).toNat = kk - 1 := by omega
            have k8 : 0 ≤ (kk : Int) - 1 := by omega
            have k9 : (kk : Int) - 1 < (l0_2.length : Int) := by omega
            have HY := Aside0.mk hye
            clear hye e
            cases k10 : decide (x ≤ y) with
            | true =>
              go_upto_region 7 with (fail)
              repeat (go_quiet ((go_at_call 44; (try simp only [hwe]); (with_reducible refine (spec_l01In.calls x 0 (a0_0 - 1) true _ HW.out).mono ?_); rintro e w' ⟨rfl, ⟨nd, rfl⟩⟩; (try first | exact ⟨rfl, _, World.drewN_drewN _ _ _⟩ | exact ⟨rfl, _, Eq.trans (World.drewN_drewN _ _ _) (congrArg (World.drewN _) (Nat.add_assoc _ _ _))⟩))); try go_wp2)
              go_ret
              refine ⟨?_, by repeat (first | exact D.out | apply below_alloc | apply pw_below_drewN | apply below_drew1)⟩
              rw [spec_SpaceOK.all_miss (spec_SpaceOK.k2 a0_0 l0_2) _ kk hlt (by rw [HWR.out]; rw [HK2.out, HY.out]; simp [k5n, k10])]
              simp
            | false =>
              go_upto_region 7 with (fail)
              repeat (go_quiet ((go_at_call 44; (try simp only [hwe]); (with_reducible refine (spec_l01In.calls x 0 (a0_0 - 1) true _ HW.out).mono ?_); rintro e w' ⟨rfl, ⟨nd, rfl⟩⟩; (try first | exact ⟨rfl, _, World.drewN_drewN _ _ _⟩ | exact ⟨rfl, _, Eq.trans (World.drewN_drewN _ _ _) (congrArg (World.drewN _) (Nat.add_assoc _ _ _))⟩))); try go_wp2)
              go_roundg (l0_2.length - (kk + 1))
              case measure => omega
              case rel =>
                refine ⟨kk + 1, b.set x.toNat true, by omega, by omega, by go_num, ⟨by rw [List.length_set]; exact HL.out⟩, ⟨Kd.R_putn (by (with_reducible repeat (first | apply Kd.R_alloc | apply Kd.R_drewN | apply Kd.R_drew)); exact HO.out) x true⟩, ⟨by rw [HTK.out]; exact SI.out.step (by rw [HL.out, HNT.out]) x HX1.out HX2.out⟩, ⟨?_⟩, ⟨?_⟩, ⟨fun j hj => ?_⟩⟩
                · refine blk_far (?_ : _ = some _) (by intro e; exact Kd.R_ne HO.out BK.out (by decide) (by rw [e]; rfl)) _
                  (with_reducible repeat (first | refine blk_drewN ?_ _ | refine blk_drew ?_ | refine blk_alloc ?_ _))
                  exact BK.out
                · refine below_set ?_ GQ.out
                  repeat (first | exact D.out | apply below_alloc | apply pw_below_drewN | apply below_drew1)
                · by_cases e : j = kk
                  · subst e
                    rw [HWR.out]
                    rw [HK2.out, HY.out]; simp [k5n, k10]
                  · exact B.out j (by omega)
    · have hz : kk = l0_2.length := by omega
      subst hz
      have hltb : decide ((l0_2.length : Int) < (l0_2.length : Int)) = false := decide_eq_false (by omega)
      have ALL2 := Aside0.mk (spec_SpaceOK.all_hit (spec_SpaceOK.k2 a0_0 l0_2) _ B.out)
      have SI2 : Aside0 (spec_SpaceOK.Seen a0_0 b (l0_2 ++ (l0_3.take 0).map (·.f0))) := ⟨by have := SI.out; rw [List.take_of_length_le (Nat.le_refl _)] at this; simpa using this⟩
      clear B SI
      go_wp2
      go_loopg [5] l0_3.length (fun gg sl wr => ∃ (kk : Nat) (b : List Bool), kk ≤ l0_3.length ∧ l0_3.length - kk ≤ gg ∧ sl = .int .i64 kk ∧ Aside0 (b.length = n) ∧ Aside0 (Kd.R Kd.bool 4 wr w.heap.size (fun _ => True) (.slice (some ⟨go, 0, none⟩) n co) b) ∧ Aside0 (spec_SpaceOK.Seen a0_0 b (l0_2 ++ (l0_3.take kk).map (·.f0))) ∧ Aside0 (wr.heap[gb]? = some (.cells #[.int .i64 a0_0, .int .i64 a0_1, .slice A0_2 l0_2.length c0_2, .slice A0_3 l0_3.length c0_3, .slice A0_4 l0_4.length c0_4] 31 (0, 0))) ∧ Aside0 (Below w.heap.size w wr) ∧ Aside0 (∀ j, j < kk → spec_SpaceOK.k3 a0_0 a0_1 l0_2 l0_3 j = true))
      case atStart => exact ⟨0, _, Nat.zero_le _, by omega, rfl, HL, HO, SI2, BK, D, ⟨fun j hj => absurd hj (Nat.not_lt_zero _)⟩⟩
      case round =>
        clear hcz0 hcz1 hcz2 hcz3 hcz4 hltb SI2 HL HO BK D
        obtain ⟨kk, b, hkk, hg, rfl, HL, HO, SI, BK, D, B⟩ := hrel
        have hcz0 : wr.cell? ⟨gb, 0, none⟩ = some (.int .i64 a0_0) := (blk_cell BK.out 0).trans rfl
        have hcz1 : wr.cell? ⟨gb, 1, none⟩ = some (.int .i64 a0_1) := (blk_cell BK.out 1).trans rfl
        have hcz2 : wr.cell? ⟨gb, 2, none⟩ = some (.slice A0_2 l0_2.length c0_2) := (blk_cell BK.out 2).trans rfl
        have hcz3 : wr.cell? ⟨gb, 3, none⟩ = some (.slice A0_3 l0_3.length c0_3) := (blk_cell BK.out 3).trans rfl
        have hcz4 : wr.cell? ⟨gb, 4, none⟩ = some (.slice A0_4 l0_4.length c0_4) := (blk_cell BK.out 4).trans rfl
        by_cases hlt : kk < l0_3.length
        · have hltz : (kk : Int) < (l0_3.length : Int) := by omega
          have hltb : decide ((kk : Int) < (l0_3.length : Int)) = true := decide_eq_true hltz
          obtain ⟨ad, e2, hx0, hx1⟩ := at_T74 (Kd.C_below HR3.out D.out) (kk : Int) (by omega) hltz
          cases e2
          rw [Int.toNat_natCast] at hx0 hx1
          have hp : kk = 0 ∨ (0 < kk ∧ ∃ y, (rd_T74 l0_3 ((kk : Int) - 1)).f0 = y ∧ wr.cell? (ad.add ((kk - 1) * 2)) = some (.int .i64 y)) := by
            rcases Nat.eq_zero_or_pos kk with e | e
            · exact .inl e
            · refine .inr ⟨e, _, rfl, ?_⟩
              obtain ⟨ad2, e2, hy0, hy1⟩ := at_T74 (Kd.C_below HR3.out D.out) ((kk : Int) - 1) (by omega) (by omega)
              obtain rfl := Option.some.inj e2
              rw [show ((kk : Int) - 1).toNat = kk - 1 by omega] at hy0
              exact hy0
          have hwr : spec_SpaceOK.k3 a0_0 a0_1 l0_2 l0_3 kk = (spec_SpaceOK.win (rd_T74 l0_3 (kk : Int)).f0 0 (wrap64 (a0_0 - 1)) && (!decide ((rd_T74 l0_3 (kk : Int)).f0 ∈ l0_2 ++ (l0_3.take kk).map (·.f0)) && (spec_SpaceOK.win (rd_T74 l0_3 (kk : Int)).f1 0 (wrap64 (a0_1 - 1)) && (!decide (0 < kk) || !decide ((rd_T74 l0_3 (kk : Int)).f0 ≤ (rd_T74 l0_3 ((kk : Int) - 1)).f0))))) := rfl
          have htk : l0_2 ++ (l0_3.take (kk + 1)).map (·.f0) = (l0_2 ++ (l0_3.take kk).map (·.f0)) ++ [(rd_T74 l0_3 (kk : Int)).f0] := by rw [List.take_succ_eq_append_getElem hlt, List.map_append, ← List.append_assoc]; simp only [List.map_cons, List.map_nil, rd_T74, List.getD_eq_getElem?_getD, List.getElem?_eq_getElem hlt, Int.toNat_natCast, Option.getD_some]
          obtain ⟨xx, hx⟩ : ∃ xx, xx = (rd_T74 l0_3 (kk : Int)) := ⟨_, rfl⟩
          rw [← hx] at hx0 hx1 hwr htk
          clear hx
          obtain ⟨x, xe⟩ := xx
          dsimp only at hx0 hx1 hwr htk
          rw [HWE.out] at hwr
          have hws := spec_SpaceOK.win_some x 0 (a0_0 - 1)
          have hwi := (spec_SpaceOK.win_iff x 0 (a0_0 - 1)).1
          have hwse := spec_SpaceOK.win_some xe 0 (wrap64 (a0_1 - 1))
          generalize spec_SpaceOK.win x 0 (a0_0 - 1) = k1 at hws hwi hwr
          generalize spec_SpaceOK.win xe 0 (wrap64 (a0_1 - 1)) = k4 at hwse hwr
          have HW := Aside0.mk hws
          have HWS := Aside0.mk hwse
          have HWR := Aside0.mk hwr
          have HP := Aside0.mk hp
          have HWI := Aside0.mk hwi
          have HTK := Aside0.mk htk
          clear hws hwr hp hwi htk hwse
          have hwe := HWF.out
          have hwe3 := i64_w (a0_1 - 1)
          cases k1 with
          | false =>
            go_upto_region 14 with (fail)
            have BKw := Aside0.mk (blk_new wr (.cells #[.int .i64 x, .int .i64 xe] 74 (0, 0)))
            have D1 := Aside0.mk (below_alloc D.out (.cells #[.int .i64 x, .int .i64 xe] 74 (0, 0)))
            have hw0 := (blk_cell BKw.out 0).trans rfl
            have hw1 := (blk_cell BKw.out 1).trans rfl
            have BKn := Aside0.mk (blk_alloc BK.out (.cells #[.int .i64 x, .int .i64 xe] 74 (0, 0)))
            have HOn := Aside0.mk (Kd.R_alloc HO.out (.cells #[.int .i64 x, .int .i64 xe] 74 (0, 0)))
            have hcn0 := (blk_cell BKn.out 0).trans rfl
            have hcn1 := (blk_cell BKn.out 1).trans rfl
            have hcn2 := (blk_cell BKn.out 2).trans rfl
            have hcn3 := (blk_cell BKn.out 3).trans rfl
            have hcn4 := (blk_cell BKn.out 4).trans rfl
            clear BK D HO
            have BK := BKn
            have D := D1
            have HO := HOn
            clear BKn D1 HOn
            generalize hg2 : wr.heap.size = g2 at BKw hw0 hw1 ⊢
            clear hg2 hcz0 hcz1 hcz2 hcz3 hcz4 hx0 hx1
            generalize wr.alloc (.cells #[.int .i64 x, .int .i64 xe] 74 (0, 0)) = WW at BKw BK D HO hw0 hw1 hcn0 hcn1 hcn2 hcn3 hcn4 ⊢
            repeat (go_quiet ((first | (go_at_call 44; (try simp only [hwe, hwe3]); (with_reducible refine (spec_l01In.calls x 0 (a0_0 - 1) false _ HW.out).mono ?_); rintro e w' ⟨rfl, ⟨nd, rfl⟩⟩; (try first | exact ⟨rfl, _, World.drewN_drewN _ _ _⟩ | exact ⟨rfl, _, Eq.trans (World.drewN_drewN _ _ _) (congrArg (World.drewN _) (Nat.add_assoc _ _ _))⟩)) | (go_at_call 44; (try simp only [hwe, hwe3]); (with_reducible refine (spec_l01In.calls xe 0 (wrap64 (a0_1 - 1)) k4 _ HWS.out).mono ?_); rintro e w' ⟨rfl, ⟨nd, rfl⟩⟩; (try first | exact ⟨rfl, _, World.drewN_drewN _ _ _⟩ | exact ⟨rfl, _, Eq.trans (World.drewN_drewN _ _ _) (congrArg (World.drewN _) (Nat.add_assoc _ _ _))⟩)))); try go_wp2)
            go_ret
            refine ⟨?_, by repeat (first | exact D.out | apply below_alloc | apply pw_below_drewN | apply below_drew1)⟩
            rw [ALL2.out]; rw [spec_SpaceOK.all_miss (spec_SpaceOK.k3 a0_0 a0_1 l0_2 l0_3) _ kk hlt (by rw [HWR.out]; simp)]
            simp
          | true =>
            have hx3 := (HWI.out rfl).1
            have HX1 := Aside0.mk hx3
            have hx5 : x < a0_0 := by have := (HWI.out rfl).2; omega
            have HX2 := Aside0.mk hx5
            clear hx5
            have hx4 : x < (n : Int) := HXN.out x (by have := (HWI.out rfl).2; omega)
            obtain ⟨hs0, hsf⟩ := Kd.R_celln false HO.out x hx3 hx4
            rw [SI.out x hx3 (by have := (HWI.out rfl).2; omega)] at hs0
            generalize hk2 : decide (x ∈ l0_2 ++ (l0_3.take kk).map (·.f0)) = k2 at hs0
            have HK2 := Aside0.mk hk2
            clear hk2 hsf
            cases k2 with
            | true =>
              go_upto_region 14 with (fail)
              have BKw := Aside0.mk (blk_new wr (.cells #[.int .i64 x, .int .i64 xe] 74 (0, 0)))
              have D1 := Aside0.mk (below_alloc D.out (.cells #[.int .i64 x, .int .i64 xe] 74 (0, 0)))
              have hw0 := (blk_cell BKw.out 0).trans rfl
              have hw1 := (blk_cell BKw.out 1).trans rfl
              have BKn := Aside0.mk (blk_alloc BK.out (.cells #[.int .i64 x, .int .i64 xe] 74 (0, 0)))
              have HOn := Aside0.mk (Kd.R_alloc HO.out (.cells #[.int .i64 x, .int .i64 xe] 74 (0, 0)))
              have hcn0 := (blk_cell BKn.out 0).trans rfl
              have hcn1 := (blk_cell BKn.out 1).trans rfl
              have hcn2 := (blk_cell BKn.out 2).trans rfl
              have hcn3 := (blk_cell BKn.out 3).trans rfl
              have hcn4 := (blk_cell BKn.out 4).trans rfl
              have hsn := pw_cell_below (below_alloc (Below.refl _ _) (.cells #[.int .i64 x, .int .i64 xe] 74 (0, 0))) hs0
              have hsg := (Kd.R_celln false HOn.out x hx3 hx4).2
              clear BK D HO
              have BK := BKn
              have D := D1
              have HO := HOn
              clear BKn D1 HOn
              generalize hg2 : wr.heap.size = g2 at BKw hw0 hw1 ⊢
              clear hg2 hcz0 hcz1 hcz2 hcz3 hcz4 hx0 hx1
              generalize wr.alloc (.cells #[.int .i64 x, .int .i64 xe] 74 (0, 0)) = WW at BKw BK D HO hw0 hw1 hcn0 hcn1 hcn2 hcn3 hcn4 hsn hsg ⊢
              repeat (go_quiet ((first | (go_at_call 44; (try simp only [hwe, hwe3]); (with_reducible refine (spec_l01In.calls x 0 (a0_0 - 1) true _ HW.out).mono ?_); rintro e w' ⟨rfl, ⟨nd, rfl⟩⟩; (try first | exact ⟨rfl, _, World.drewN_drewN _ _ _⟩ | exact ⟨rfl, _, Eq.trans (World.drewN_drewN _ _ _) (congrArg (World.drewN _) (Nat.add_assoc _ _ _))⟩)) | (go_at_call 44; (try simp only [hwe, hwe3]); (with_reducible refine (spec_l01In.calls xe 0 (wrap64 (a0_1 - 1)) k4 _ HWS.out).mono ?_); rintro e w' ⟨rfl, ⟨nd, rfl⟩⟩; (try first | exact ⟨rfl, _, World.drewN_drewN _ _ _⟩ | exact ⟨rfl, _, Eq.trans (World.drewN_drewN _ _ _) (congrArg (World.drewN _) (Nat.add_assoc _ _ _))⟩)))); try go_wp2)
              go_ret
              refine ⟨?_, by repeat (first | exact D.out | apply below_alloc | apply pw_below_drewN | apply below_drew1)⟩
              rw [ALL2.out]; rw [spec_SpaceOK.all_miss (spec_SpaceOK.k3 a0_0 a0_1 l0_2 l0_3) _ kk hlt (by rw [HWR.out]; rw [HK2.out]; simp)]
              simp
            | false =>
              cases k4 with
              | false =>
                go_upto_region 14 with (fail)
                have BKw := Aside0.mk (blk_new wr (.cells #[.int .i64 x, .int .i64 xe] 74 (0, 0)))
                have D1 := Aside0.mk (below_alloc D.out (.cells #[.int .i64 x, .int .i64 xe] 74 (0, 0)))
                have hw0 := (blk_cell BKw.out 0).trans rfl
                have hw1 := (blk_cell BKw.out 1).trans rfl
                have BKn := Aside0.mk (blk_alloc BK.out (.cells #[.int .i64 x, .int .i64 xe] 74 (0, 0)))
                have HOn := Aside0.mk (Kd.R_alloc HO.out (.cells #[.int .i64 x, .int .i64 xe] 74 (0, 0)))
                have hcn0 := (blk_cell BKn.out 0).trans rfl
                have hcn1 := (blk_cell BKn.out 1).trans rfl
                have hcn2 := (blk_cell BKn.out 2).trans rfl
                have hcn3 := (blk_cell BKn.out 3).trans rfl
                have hcn4 := (blk_cell BKn.out 4).trans rfl
                have hsn := pw_cell_below (below_alloc (Below.refl _ _) (.cells #[.int .i64 x, .int .i64 xe] 74 (0, 0))) hs0
                have hsg := (Kd.R_celln false HOn.out x hx3 hx4).2
                clear BK D HO
                have BK := BKn
                have D := D1
                have HO := HOn
                clear BKn D1 HOn
                generalize hg2 : wr.heap.size = g2 at BKw hw0 hw1 ⊢
                clear hg2 hcz0 hcz1 hcz2 hcz3 hcz4 hx0 hx1
                generalize wr.alloc (.cells #[.int .i64 x, .int .i64 xe] 74 (0, 0)) = WW at BKw BK D HO hw0 hw1 hcn0 hcn1 hcn2 hcn3 hcn4 hsn hsg ⊢
                repeat (go_quiet ((first | (go_at_call 44; (try simp only [hwe, hwe3]); (with_reducible refine (spec_l01In.calls x 0 (a0_0 - 1) true _ HW.out).mono ?_); rintro e w' ⟨rfl, ⟨nd, rfl⟩⟩; (try first | exact ⟨rfl, _, World.drewN_drewN _ _ _⟩ | exact ⟨rfl, _, Eq.trans (World.drewN_drewN _ _ _) (congrArg (World.drewN _) (Nat.add_assoc _ _ _))⟩)) | (go_at_call 44; (try simp only [hwe, hwe3]); (with_reducible refine (spec_l01In.calls xe 0 (wrap64 (a0_1 - 1)) false _ HWS.out).mono ?_); rintro e w' ⟨rfl, ⟨nd, rfl⟩⟩; (try first | exact ⟨rfl, _, World.drewN_drewN _ _ _⟩ | exact ⟨rfl, _, Eq.trans (World.drewN_drewN _ _ _) (congrArg (World.drewN _) (Nat.add_assoc _ _ _))⟩)))); try go_wp2)
                go_ret
                refine ⟨?_, by repeat (first | exact D.out | apply below_alloc | apply pw_below_drewN | apply below_drew1)⟩
                rw [ALL2.out]; rw [spec_SpaceOK.all_miss (spec_SpaceOK.k3 a0_0 a0_1 l0_2 l0_3) _ kk hlt (by rw [HWR.out]; simp)]
                simp
              | true =>
                rcases HP.out with e | ⟨e, y, hye, hy⟩
                · have k5b : decide ((0 : Int) < (kk : Int)) = false := decide_eq_false (by omega)
                  have k5n : decide (0 < kk) = false := decide_eq_false (by omega)
                  clear e
                  go_upto_region 14 with (fail)
                  have BKw := Aside0.mk (blk_new wr (.cells #[.int .i64 x, .int .i64 xe] 74 (0, 0)))
                  have D1 := Aside0.mk (below_alloc D.out (.cells #[.int .i64 x, .int .i64 xe] 74 (0, 0)))
                  have hw0 := (blk_cell BKw.out 0).trans rfl
                  have hw1 := (blk_cell BKw.out 1).trans rfl
                  have BKn := Aside0.mk (blk_alloc BK.out (.cells #[.int .i64 x, .int .i64 xe] 74 (0, 0)))
                  have HOn := Aside0.mk (Kd.R_alloc HO.out (.cells #[.int .i64 x, .int .i64 xe] 74 (0, 0)))
                  have hcn0 := (blk_cell BKn.out 0).trans rfl
                  have hcn1 := (blk_cell BKn.out 1).trans rfl
                  have hcn2 := (blk_cell BKn.out 2).trans rfl
                  have hcn3 := (blk_cell BKn.out 3).trans rfl
                  have hcn4 := (blk_cell BKn.out 4).trans rfl
                  have hsn := pw_cell_below (below_alloc (Below.refl _ _) (.cells #[.int .i64 x, .int .i64 xe] 74 (0, 0))) hs0
                  have hsg := (Kd.R_celln false HOn.out x hx3 hx4).2
                  clear BK D HO
                  have BK := BKn
                  have D := D1
                  have HO := HOn
                  clear BKn D1 HOn
                  generalize hg2 : wr.heap.size = g2 at BKw hw0 hw1 ⊢
                  clear hg2 hcz0 hcz1 hcz2 hcz3 hcz4 hx0 hx1
                  generalize wr.alloc (.cells #[.int .i64 x, .int .i64 xe] 74 (0, 0)) = WW at BKw BK D HO hw0 hw1 hcn0 hcn1 hcn2 hcn3 hcn4 hsn hsg ⊢
                  repeat (go_quiet ((first | (go_at_call 44; (try simp only [hwe, hwe3]); (with_reducible refine (spec_l01In.calls x 0 (a0_0 - 1) true _ HW.out).mono ?_); rintro e w' ⟨rfl, ⟨nd, rfl⟩⟩; (try first | exact ⟨rfl, _, World.drewN_drewN _ _ _⟩ | exact ⟨rfl, _, Eq.trans (World.drewN_drewN _ _ _) (congrArg (World.drewN _) (Nat.add_assoc _ _ _))⟩)) | (go_at_call 44; (try simp only [hwe, hwe3]); (with_reducible refine (spec_l01In.calls xe 0 (wrap64 (a0_1 - 1)) true _ HWS.out).mono ?_); rintro e w' ⟨rfl, ⟨nd, rfl⟩⟩; (try first | exact ⟨rfl, _, World.drewN_drewN _ _ _⟩ | exact ⟨rfl, _, Eq.trans (World.drewN_drewN _ _ _) (congrArg (World.drewN _) (Nat.add_assoc _ _ _))⟩)))); try go_wp2)
                  go_roundg (l0_3.length - (kk + 1))
                  case measure => omega
                  case rel =>
                    refine ⟨kk + 1, b.set x.toNat true, by omega, by omega, by go_num, ⟨by rw [List.length_set]; exact HL.out⟩, ⟨Kd.R_putn (by (with_reducible repeat (first | apply Kd.R_alloc | apply Kd.R_drewN | apply Kd.R_drew)); exact HO.out) x true⟩, ⟨by rw [HTK.out]; exact SI.out.step (by rw [HL.out, HNT.out]) x HX1.out HX2.out⟩, ⟨?_⟩, ⟨?_⟩, ⟨fun j hj => ?_⟩⟩
                    · refine blk_far (?_ : _ = some _) (by intro e; exact Kd.R_ne HO.out BK.out (by decide) (by rw [e]; rfl)) _
                      (with_reducible repeat (first | refine blk_drewN ?_ _ | refine blk_drew ?_ | refine blk_alloc ?_ _))
                      exact BK.out
                    · refine below_set ?_ GQ.out
                      repeat (first | exact D.out | apply below_alloc | apply pw_below_drewN | apply below_drew1)
                    · by_cases e : j = kk
                      · subst e
                        rw [HWR.out]
                        rw [HK2.out]; simp [k5n]
                      · exact B.out j (by omega)
                · have k5b : decide ((0 : Int) < (kk : Int)) = true := decide_eq_true (by omega)
                  have k5n : decide (0 < kk) = true := decide_eq_true (by omega)
                  have k6 : IntKind.i64.wrap ((kk : Int) - 1) = (kk : Int) - 1 := by rw [i64_w]; unfold wrap64; omega
                  have k7 : ((kk : Int) - 1).toNat = kk - 1 := by omega
                  have k8 : 0 ≤ (kk : Int) - 1 := by omega
                  have k9 : (kk : Int) - 1 < (l0_3.length : Int) := by omega
                  have HY := Aside0.mk hye
                  clear hye e
                  cases k10 : decide (x ≤ y) with
                  | true =>
                    go_upto_region 14 with (fail)
                    have BKw := Aside0.mk (blk_new wr (.cells #[.int .i64 x, .int .i64 xe] 74 (0, 0)))
                    have D1 := Aside0.mk (below_alloc D.out (.cells #[.int .i64 x, .int .i64 xe] 74 (0, 0)))
                    have hw0 := (blk_cell BKw.out 0).trans rfl
                    have hw1 := (blk_cell BKw.out 1).trans rfl
                    have BKn := Aside0.mk (blk_alloc BK.out (.cells #[.int .i64 x, .int .i64 xe] 74 (0, 0)))
                    have HOn := Aside0.mk (Kd.R_alloc HO.out (.cells #[.int .i64 x, .int .i64 xe] 74 (0, 0)))
                    have hcn0 := (blk_cell BKn.out 0).trans rfl
                    have hcn1 := (blk_cell BKn.out 1).trans rfl
                    have hcn2 := (blk_cell BKn.out 2).trans rfl
                    have hcn3 := (blk_cell BKn.out 3).trans rfl
                    have hcn4 := (blk_cell BKn.out 4).trans rfl
                    have hsn := pw_cell_below (below_alloc (Below.refl _ _) (.cells #[.int .i64 x, .int .i64 xe] 74 (0, 0))) hs0
                    have hsg := (Kd.R_celln false HOn.out x hx3 hx4).2
                    have hyn := pw_cell_below (below_alloc (Below.refl _ _) (.cells #[.int .i64 x, .int .i64 xe] 74 (0, 0))) hy
                    clear BK D HO
                    have BK := BKn
                    have D := D1
                    have HO := HOn
                    clear BKn D1 HOn
                    generalize hg2 : wr.heap.size = g2 at BKw hw0 hw1 ⊢
                    clear hg2 hcz0 hcz1 hcz2 hcz3 hcz4 hx0 hx1
                    generalize wr.alloc (.cells #[.int .i64 x, .int .i64 xe] 74 (0, 0)) = WW at BKw BK D HO hw0 hw1 hcn0 hcn1 hcn2 hcn3 hcn4 hsn hsg hyn ⊢
                    repeat (go_quiet ((first | (go_at_call 44; (try simp only [hwe, hwe3]); (with_reducible refine (spec_l01In.calls x 0 (a0_0 - 1) true _ HW.out).mono ?_); rintro e w' ⟨rfl, ⟨nd, rfl⟩⟩; (try first | exact ⟨rfl, _, World.drewN_drewN _ _ _⟩ | exact ⟨rfl, _, Eq.trans (World.drewN_drewN _ _ _) (congrArg (World.drewN _) (Nat.add_assoc _ _ _))⟩)) | (go_at_call 44; (try simp only [hwe, hwe3]); (with_reducible refine (spec_l01In.calls xe 0 (wrap64 (a0_1 - 1)) true _ HWS.out).mono ?_); rintro e w' ⟨rfl, ⟨nd, rfl⟩⟩; (try first | exact ⟨rfl, _, World.drewN_drewN _ _ _⟩ | exact ⟨rfl, _, Eq.trans (World.drewN_drewN _ _ _) (congrArg (World.drewN _) (Nat.add_assoc _ _ _))⟩)))); try go_wp2)
                    go_ret
                    refine ⟨?_, by repeat (first | exact D.out | apply below_alloc | apply pw_below_drewN | apply below_drew1)⟩
                    rw [ALL2.out]; rw [spec_SpaceOK.all_miss (spec_SpaceOK.k3 a0_0 a0_1 l0_2 l0_3) _ kk hlt (by rw [HWR.out]; rw [HK2.out, HY.out]; simp [k5n, k10])]
                    simp
                  | false =>
                    go_upto_region 14 with (fail)
                    have BKw := Aside0.mk (blk_new wr (.cells #[.int .i64 x, .int .i64 xe] 74 (0, 0)))
                    have D1 := Aside0.mk (below_alloc D.out (.cells #[.int .i64 x, .int .i64 xe] 74 (0, 0)))
                    have hw0 := (blk_cell BKw.out 0).trans rfl
                    have hw1 := (blk_cell BKw.out 1).trans rfl
                    have BKn := Aside0.mk (blk_alloc BK.out (.cells #[.int .i64 x, .int .i64 xe] 74 (0, 0)))
                    have HOn := Aside0.mk (Kd.R_alloc HO.out (.cells #[.int .i64 x, .int .i64 xe] 74 (0, 0)))
                    have hcn0 := (blk_cell BKn.out 0).trans rfl
                    have hcn1 := (blk_cell BKn.out 1).trans rfl
                    have hcn2 := (blk_cell BKn.out 2).trans rfl
                    have hcn3 := (blk_cell BKn.out 3).trans rfl
                    have hcn4 := (blk_cell BKn.out 4).trans rfl
                    have hsn := pw_cell_below (below_alloc (Below.refl _ _) (.cells #[.int .i64 x, .int .i64 xe] 74 (0, 0))) hs0
                    have hsg := (Kd.R_celln false HOn.out x hx3 hx4).2
                    have hyn := pw_cell_below (below_alloc (Below.refl _ _) (.cells #[.int .i64 x, .int .i64 xe] 74 (0, 0))) hy
                    clear BK D HO
                    have BK := BKn
                    have D := D1
                    have HO := HOn
                    clear BKn D1 HOn
                    generalize hg2 : wr.heap.size = g2 at BKw hw0 hw1 ⊢
                    clear hg2 hcz0 hcz1 hcz2 hcz3 hcz4 hx0 hx1
                    generalize wr.alloc (.cells #[.int .i64 x, .int .i64 xe] 74 (0, 0)) = WW at BKw BK D HO hw0 hw1 hcn0 hcn1 hcn2 hcn3 hcn4 hsn hsg hyn ⊢
                    repeat (go_quiet ((first | (go_at_call 44; (try simp only [hwe, hwe3]); (with_reducible refine (spec_l01In.calls x 0 (a0_0 - 1) true _ HW.out).mono ?_); rintro e w' ⟨rfl, ⟨nd, rfl⟩⟩; (try first | exact ⟨rfl, _, World.drewN_drewN _ _ _⟩ | exact ⟨rfl, _, Eq.trans (World.drewN_drewN _ _ _) (congrArg (World.drewN _) (Nat.add_assoc _ _ _))⟩)) | (go_at_call 44; (try simp only [hwe, hwe3]); (with_reducible refine (spec_l01In.calls xe 0 (wrap64 (a0_1 - 1)) true _ HWS.out).mono ?_); rintro e w' ⟨rfl, ⟨nd, rfl⟩⟩; (try first | exact ⟨rfl, _, World.drewN_drewN _ _ _⟩ | exact ⟨rfl, _, Eq.trans (World.drewN_drewN _ _ _) (congrArg (World.drewN _) (Nat.add_assoc _ _ _))⟩)))); try go_wp2)
                    go_roundg (l0_3.length - (kk + 1))
                    case measure => omega
                    case rel =>
                      refine ⟨kk + 1, b.set x.toNat true, by omega, by omega, by go_num, ⟨by rw [List.length_set]; exact HL.out⟩, ⟨Kd.R_putn (by (with_reducible repeat (first | apply Kd.R_alloc | apply Kd.R_drewN | apply Kd.R_drew)); exact HO.out) x true⟩, ⟨by rw [HTK.out]; exact SI.out.step (by rw [HL.out, HNT.out]) x HX1.out HX2.out⟩, ⟨?_⟩, ⟨?_⟩, ⟨fun j hj => ?_⟩⟩
                      · refine blk_far (?_ : _ = some _) (by intro e; exact Kd.R_ne HO.out BK.out (by decide) (by rw [e]; rfl)) _
                        (with_reducible repeat (first | refine blk_drewN ?_ _ | refine blk_drew ?_ | refine blk_alloc ?_ _))
                        exact BK.out
                      · refine below_set ?_ GQ.out
                        repeat (first | exact D.out | apply below_alloc | apply pw_below_drewN | apply below_drew1)
                      · by_cases e : j = kk
                        · subst e
                          rw [HWR.out]
                          rw [HK2.out, HY.out]; simp [k5n, k10]
                        · exact B.out j (by omega)
        · have hz : kk = l0_3.length := by omega
          subst hz
          have hltb : decide ((l0_3.length : Int) < (l0_3.length : Int)) = false := decide_eq_false (by omega)
          have ALL3 := Aside0.mk (spec_SpaceOK.all_hit (spec_SpaceOK.k3 a0_0 a0_1 l0_2 l0_3) _ B.out)
          clear B SI HO HL
          go_wp2
          go_loopg [7] l0_4.length (fun gg sl wr => ∃ kk : Nat, kk ≤ l0_4.length ∧ l0_4.length - kk ≤ gg ∧ sl = .int .i64 kk ∧ Aside0 (wr.heap[gb]? = some (.cells #[.int .i64 a0_0, .int .i64 a0_1, .slice A0_2 l0_2.length c0_2, .slice A0_3 l0_3.length c0_3, .slice A0_4 l0_4.length c0_4] 31 (0, 0))) ∧ Aside0 (Below w.heap.size w wr) ∧ Aside0 (∀ j, j < kk → spec_SpaceOK.k4 a0_1 l0_4 j = true))
          case atStart => exact ⟨0, Nat.zero_le _, by omega, rfl, BK, D, ⟨fun j hj => absurd hj (Nat.not_lt_zero _)⟩⟩
          case round =>
            clear hcz0 hcz1 hcz2 hcz3 hcz4 hltb BK D
            obtain ⟨kk, hkk, hg, rfl, BK, D, B⟩ := hrel
            have hcz0 : wr.cell? ⟨gb, 0, none⟩ = some (.int .i64 a0_0) := (blk_cell BK.out 0).trans rfl
            have hcz1 : wr.cell? ⟨gb, 1, none⟩ = some (.int .i64 a0_1) := (blk_cell BK.out 1).trans rfl
            have hcz2 : wr.cell? ⟨gb, 2, none⟩ = some (.slice A0_2 l0_2.length c0_2) := (blk_cell BK.out 2).trans rfl
            have hcz3 : wr.cell? ⟨gb, 3, none⟩ = some (.slice A0_3 l0_3.length c0_3) := (blk_cell BK.out 3).trans rfl
            have hcz4 : wr.cell? ⟨gb, 4, none⟩ = some (.slice A0_4 l0_4.length c0_4) := (blk_cell BK.out 4).trans rfl
            by_cases hlt : kk < l0_4.length
            · have hltz : (kk : Int) < (l0_4.length : Int) := by omega
              have hltb : decide ((kk : Int) < (l0_4.length : Int)) = true := decide_eq_true hltz
              obtain ⟨ad, e2, hx0⟩ := Kd.at_int (Kd.C_below HR4.out D.out) (kk : Int) (by omega) hltz
              cases e2
              rw [Int.toNat_natCast] at hx0
              have hwr : spec_SpaceOK.k4 a0_1 l0_4 kk = spec_SpaceOK.win (rd l0_4 (kk : Int)) 0 a0_1 := rfl
              obtain ⟨x, hx⟩ : ∃ x, x = rd l0_4 (kk : Int) := ⟨_, rfl⟩
              rw [← hx] at hx0 hwr
              clear hx
              have hws := spec_SpaceOK.win_some x 0 a0_1
              generalize spec_SpaceOK.win x 0 a0_1 = k1 at hws hwr
              have HW := Aside0.mk hws
              have HWR := Aside0.mk hwr
              clear hws hwr
              cases k1 with
              | false =>
                go_wp2_with ((go_at_call 44; (with_reducible refine (spec_l01In.calls x 0 a0_1 false _ HW.out).mono ?_); rintro e w' ⟨rfl, ⟨nd, rfl⟩⟩))
                try (repeat (go_quiet ((go_at_call 44; (with_reducible refine (spec_l01In.calls x 0 (a0_1) false _ HW.out).mono ?_); rintro e w' ⟨rfl, ⟨nd, rfl⟩⟩; (try first | exact ⟨rfl, _, World.drewN_drewN _ _ _⟩ | exact ⟨rfl, _, Eq.trans (World.drewN_drewN _ _ _) (congrArg (World.drewN _) (Nat.add_assoc _ _ _))⟩))); try go_wp2))
                go_ret
                refine ⟨?_, by repeat (first | exact D.out | apply below_alloc | apply pw_below_drewN | apply below_drew1)⟩
                rw [ALL2.out, ALL3.out, spec_SpaceOK.all_miss (spec_SpaceOK.k4 a0_1 l0_4) _ kk hlt HWR.out]
                simp
              | true =>
                go_wp2_with ((go_at_call 44; (with_reducible refine (spec_l01In.calls x 0 a0_1 true _ HW.out).mono ?_); rintro e w' ⟨rfl, ⟨nd, rfl⟩⟩))
                try (repeat (go_quiet ((go_at_call 44; (with_reducible refine (spec_l01In.calls x 0 (a0_1) true _ HW.out).mono ?_); rintro e w' ⟨rfl, ⟨nd, rfl⟩⟩; (try first | exact ⟨rfl, _, World.drewN_drewN _ _ _⟩ | exact ⟨rfl, _, Eq.trans (World.drewN_drewN _ _ _) (congrArg (World.drewN _) (Nat.add_assoc _ _ _))⟩))); try go_wp2))
                go_roundg (l0_4.length - (kk + 1))
                case measure => omega
                case rel =>
                  refine ⟨kk + 1, by omega, by omega, by go_num, ⟨?_⟩, ⟨by repeat (first | exact D.out | apply below_alloc | apply pw_below_drewN | apply below_drew1)⟩, ⟨fun j hj => ?_⟩⟩
                  · (with_reducible repeat (first | refine blk_drewN ?_ _ | refine blk_drew ?_ | refine blk_alloc ?_ _))
                    exact BK.out
                  · by_cases e : j = kk
                    · subst e
                      exact HWR.out
                    · exact B.out j (by omega)
            · have hz : kk = l0_4.length := by omega
              subst hz
              have hltb : decide ((l0_4.length : Int) < (l0_4.length : Int)) = false := decide_eq_false (by omega)
              go_wp2
              go_ret
              exact ⟨by rw [ALL2.out, ALL3.out, spec_SpaceOK.all_hit (spec_SpaceOK.k4 a0_1 l0_4) _ B.out]; simp, D.out⟩

end Go.Proofs.Ytcnkacbgcmnokaa.XA
