-- Written by a program of the session (wip/xprint.py), out of the translation. Lean checks it.
import Derived.Test.YtcefdpjlpjgaiaaXK0
namespace Go.Proofs.Ytcefdpjlpjgaiaa.XK
open Go.RowKit Go.Proofs.YtcefdpjlpjgaiaaW.PrintWords Go.Proofs.YtcefdpjlpjgaiaaW.PrintLast Go.Proofs.YtcefdpjlpjgaiaaW.PrintMore
attribute [local go_sem] max2_int min2_int max_two min_two max_three min_three max_four min_four Go.Proofs.Ytcefdpjlpjgaiaa.Xtra.binOp_gtr Go.Proofs.Ytcefdpjlpjgaiaa.Xtra.binOp_leq Go.Proofs.Ytcefdpjlpjgaiaa.Xtra.binOp_geq   -- for this text's walks alone
set_option linter.unusedVariables false
set_option linter.unusedSimpArgs false

/-! ### spec_l01In: function 32 -/
def spec_l01In.f (a0 : Int) (a1 : Int) (a2 : Int) : Option (Bool) := if a0 ≥ a1 then (some (decide (a0 ≤ a2))) else (some false)
set_option maxHeartbeats 8000000 in
set_option maxRecDepth 100000 in
theorem spec_l01In.calls (a0 : Int) (a1 : Int) (a2 : Int) (r : Bool) (w : World) (h : spec_l01In.f a0 a1 a2 = some r) :
  Calls Try.prog 32 #[.int .i64 a0, .int .i64 a1, .int .i64 a2] w fun e w' => e = .returned (.bool r) ∧ Drawn0 w w' := by
 have H : (if a0 ≥ a1 then (some (decide (a0 ≤ a2))) else (some false)) = some r := h
 clear h
 by_cases c4 : a0 ≥ a1
 ·
  rw [if_pos c4] at H
  have c4b0 : decide (a1 ≤ a0) = true := decide_eq_true c4
  clear c4
  obtain rfl := Option.some.inj H
  go_enter Try.func32, Try.ntmps32
  go_wp2
  go_ret
  exact ⟨by first | rfl | (simp; done) | (simp [*]; done), by repeat (first | exact Drawn0.refl _ | apply Drawn0.step)⟩
 ·
  rw [if_neg c4] at H
  have c4b0 : decide (a1 ≤ a0) = false := decide_eq_false c4
  clear c4
  obtain rfl := Option.some.inj H
  go_enter Try.func32, Try.ntmps32
  go_wp2
  go_ret
  exact ⟨by first | rfl | (simp; done) | (simp [*]; done), by repeat (first | exact Drawn0.refl _ | apply Drawn0.step)⟩

/-! ### spec_l05Node: function 48 -/
mutual
def spec_l05Node.l0 : Nat → Int → Int → Bool → List ByteArray → List ByteArray → List Int → Option (Bool)
 | 0, _, _, _, _, _, _ => none
 | k + 1, x1, x6, x220000, x220001, x220002, x220003 => if x6 < (x220001.length : Int) then (if 0 ≤ x6 then (if ((rdOf ByteArray.empty x220001 x6).size : Int) > 80 then (some false) else (if x6 > 0 then (if 0 ≤ (wrap64 (x6 - 1)) then (if (wrap64 (x6 - 1)) < (x220001.length : Int) then (if ((Op.bytesLess ((rdOf ByteArray.empty x220001 (wrap64 (x6 - 1))).toList) ((rdOf ByteArray.empty x220001 x6).toList)) = true) then (spec_l05Node.l0 k x1 (wrap64 (x6 + 1)) x220000 x220001 x220002 x220003) else (some false)) else (none)) else (none)) else (spec_l05Node.l0 k x1 (wrap64 (x6 + 1)) x220000 x220001 x220002 x220003))) else (none)) else (if x220000 = true then (if (x220002.length : Int) = (x220001.length : Int) then (spec_l05Node.j1 k ((x220003.length : Int) != 0) x220000 x220001 x220002 x220003) else (spec_l05Node.j1 k true x220000 x220001 x220002 x220003)) else (if (x220002.length : Int) = 0 then (spec_l05Node.j3 k x1 ((x220003.length : Int) != (wrap64 ((x220001.length : Int) + 1))) x220000 x220001 x220002 x220003) else (spec_l05Node.j3 k x1 true x220000 x220001 x220002 x220003)))
def spec_l05Node.j1 : Nat → Bool → Bool → List ByteArray → List ByteArray → List Int → Option (Bool)
 | 0, _, _, _, _, _ => none
 | k + 1, x65, x220000, x220001, x220002, x220003 => if x65 = true then (some false) else (spec_l05Node.l1 k 0 x220000 x220001 x220002 x220003)
def spec_l05Node.l1 : Nat → Int → Bool → List ByteArray → List ByteArray → List Int → Option (Bool)
 | 0, _, _, _, _, _ => none
 | k + 1, x7, x220000, x220001, x220002, x220003 => if x7 < (x220002.length : Int) then (if 0 ≤ x7 then (if ((rdOf ByteArray.empty x220002 x7).size : Int) > 200 then (some false) else (spec_l05Node.l1 k (wrap64 (x7 + 1)) x220000 x220001 x220002 x220003)) else (none)) else (some true)
def spec_l05Node.j3 : Nat → Int → Bool → Bool → List ByteArray → List ByteArray → List Int → Option (Bool)
 | 0, _, _, _, _, _, _ => none
 | k + 1, x1, x93, x220000, x220001, x220002, x220003 => if x93 = true then (some false) else (spec_l05Node.l2 k x1 0 x220000 x220001 x220002 x220003)
def spec_l05Node.l2 : Nat → Int → Int → Bool → List ByteArray → List ByteArray → List Int → Option (Bool)
 | 0, _, _, _, _, _, _ => none
 | k + 1, x1, x8, x220000, x220001, x220002, x220003 => if x8 < (x220003.length : Int) then (if 0 ≤ x8 then ((spec_l01In.f (rd x220003 x8) 0 (wrap64 (x1 - 1))).bind fun t226 => (if t226 = true then (spec_l05Node.l2 k x1 (wrap64 (x8 + 1)) x220000 x220001 x220002 x220003) else (some false))) else (none)) else (some true)
end
def spec_l05Node.f (k : Nat) (l0_0 : List (S58)) (a1 : Int) : Option (Bool) := if 0 ≤ a1 then (if a1 < (l0_0.length : Int) then ((spec_l01In.f (((rd_T58 l0_0 a1).f1).length : Int) 1 4).bind fun t220 => (if t220 = true then (spec_l05Node.l0 k a1 0 ((rd_T58 l0_0 a1).f0) ((rd_T58 l0_0 a1).f1) ((rd_T58 l0_0 a1).f2) ((rd_T58 l0_0 a1).f3)) else (some false))) else (none)) else (none)
theorem spec_l05Node.mono_l : ∀ k, (∀ y0 y1 y2 y3 y4 y5, LeO (spec_l05Node.l0 k y0 y1 y2 y3 y4 y5) (spec_l05Node.l0 (k + 1) y0 y1 y2 y3 y4 y5)) ∧ (∀ y0 y1 y2 y3 y4, LeO (spec_l05Node.j1 k y0 y1 y2 y3 y4) (spec_l05Node.j1 (k + 1) y0 y1 y2 y3 y4)) ∧ (∀ y0 y1 y2 y3 y4, LeO (spec_l05Node.l1 k y0 y1 y2 y3 y4) (spec_l05Node.l1 (k + 1) y0 y1 y2 y3 y4)) ∧ (∀ y0 y1 y2 y3 y4 y5, LeO (spec_l05Node.j3 k y0 y1 y2 y3 y4 y5) (spec_l05Node.j3 (k + 1) y0 y1 y2 y3 y4 y5)) ∧ (∀ y0 y1 y2 y3 y4 y5, LeO (spec_l05Node.l2 k y0 y1 y2 y3 y4 y5) (spec_l05Node.l2 (k + 1) y0 y1 y2 y3 y4 y5))
 | 0 => ⟨fun _ _ _ _ _ _ r h => by simp [spec_l05Node.l0] at h, fun _ _ _ _ _ r h => by simp [spec_l05Node.j1] at h, fun _ _ _ _ _ r h => by simp [spec_l05Node.l1] at h, fun _ _ _ _ _ _ r h => by simp [spec_l05Node.j3] at h, fun _ _ _ _ _ _ r h => by simp [spec_l05Node.l2] at h⟩
 | k + 1 => by
  obtain ⟨ih0, ih1, ih2, ih3, ih4⟩ := spec_l05Node.mono_l k
  refine ⟨?_, ?_, ?_, ?_, ?_⟩
  ·
   intro y0 y1 y2 y3 y4 y5
   unfold spec_l05Node.l0
   repeat' first
   | (with_reducible exact ih0 _ _ _ _ _ _)
   | (with_reducible exact ih1 _ _ _ _ _)
   | (with_reducible exact ih2 _ _ _ _ _)
   | (with_reducible exact ih3 _ _ _ _ _ _)
   | (with_reducible exact ih4 _ _ _ _ _ _)
   | (with_reducible exact LeO.refl _)
   | (with_reducible exact LeO.none _)
   | (with_reducible refine LeO.ite ?_ ?_)
   | (with_reducible refine LeO.bind ?_ (fun _ => ?_))
   | exact ih0 _ _ _ _ _ _
   | exact ih1 _ _ _ _ _
   | exact ih2 _ _ _ _ _
   | exact ih3 _ _ _ _ _ _
   | exact ih4 _ _ _ _ _ _
   | exact LeO.none _
   | refine LeO.ite ?_ ?_
   | refine LeO.bind ?_ (fun _ => ?_)
  ·
   intro y0 y1 y2 y3 y4
   unfold spec_l05Node.j1
   repeat' first
   | (with_reducible exact ih0 _ _ _ _ _ _)
   | (with_reducible exact ih1 _ _ _ _ _)
   | (with_reducible exact ih2 _ _ _ _ _)
   | (with_reducible exact ih3 _ _ _ _ _ _)
   | (with_reducible exact ih4 _ _ _ _ _ _)
   | (with_reducible exact LeO.refl _)
   | (with_reducible exact LeO.none _)
   | (with_reducible refine LeO.ite ?_ ?_)
   | (with_reducible refine LeO.bind ?_ (fun _ => ?_))
   | exact ih0 _ _ _ _ _ _
   | exact ih1 _ _ _ _ _
   | exact ih2 _ _ _ _ _
   | exact ih3 _ _ _ _ _ _
   | exact ih4 _ _ _ _ _ _
   | exact LeO.none _
   | refine LeO.ite ?_ ?_
   | refine LeO.bind ?_ (fun _ => ?_)
  ·
   intro y0 y1 y2 y3 y4
   unfold spec_l05Node.l1
   repeat' first
   | (with_reducible exact ih0 _ _ _ _ _ _)
   | (with_reducible exact ih1 _ _ _ _ _)
   | (with_reducible exact ih2 _ _ _ _ _)
   | (with_reducible exact ih3 _ _ _ _ _ _)
   | (with_reducible exact ih4 _ _ _ _ _ _)
   | (with_reducible exact LeO.refl _)
   | (with_reducible exact LeO.none _)
   | (with_reducible refine LeO.ite ?_ ?_)
   | (with_reducible refine LeO.bind ?_ (fun _ => ?_))
   | exact ih0 _ _ _ _ _ _
   | exact ih1 _ _ _ _ _
   | exact ih2 _ _ _ _ _
   | exact ih3 _ _ _ _ _ _
   | exact ih4 _ _ _ _ _ _
   | exact LeO.none _
   | refine LeO.ite ?_ ?_
   | refine LeO.bind ?_ (fun _ => ?_)
  ·
   intro y0 y1 y2 y3 y4 y5
   unfold spec_l05Node.j3
   repeat' first
   | (with_reducible exact ih0 _ _ _ _ _ _)
   | (with_reducible exact ih1 _ _ _ _ _)
   | (with_reducible exact ih2 _ _ _ _ _)
   | (with_reducible exact ih3 _ _ _ _ _ _)
   | (with_reducible exact ih4 _ _ _ _ _ _)
   | (with_reducible exact LeO.refl _)
   | (with_reducible exact LeO.none _)
   | (with_reducible refine LeO.ite ?_ ?_)
   | (with_reducible refine LeO.bind ?_ (fun _ => ?_))
   | exact ih0 _ _ _ _ _ _
   | exact ih1 _ _ _ _ _
   | exact ih2 _ _ _ _ _
   | exact ih3 _ _ _ _ _ _
   | exact ih4 _ _ _ _ _ _
   | exact LeO.none _
   | refine LeO.ite ?_ ?_
   | refine LeO.bind ?_ (fun _ => ?_)
  ·
   intro y0 y1 y2 y3 y4 y5
   unfold spec_l05Node.l2
   repeat' first
   | (with_reducible exact ih0 _ _ _ _ _ _)
   | (with_reducible exact ih1 _ _ _ _ _)
   | (with_reducible exact ih2 _ _ _ _ _)
   | (with_reducible exact ih3 _ _ _ _ _ _)
   | (with_reducible exact ih4 _ _ _ _ _ _)
   | (with_reducible exact LeO.refl _)
   | (with_reducible exact LeO.none _)
   | (with_reducible refine LeO.ite ?_ ?_)
   | (with_reducible refine LeO.bind ?_ (fun _ => ?_))
   | exact ih0 _ _ _ _ _ _
   | exact ih1 _ _ _ _ _
   | exact ih2 _ _ _ _ _
   | exact ih3 _ _ _ _ _ _
   | exact ih4 _ _ _ _ _ _
   | exact LeO.none _
   | refine LeO.ite ?_ ?_
   | refine LeO.bind ?_ (fun _ => ?_)
theorem spec_l05Node.mono : ∀ a0 a1 k, LeO (spec_l05Node.f k a0 a1) (spec_l05Node.f (k + 1) a0 a1) := by
 intro a0 a1 k
 obtain ⟨ih0, ih1, ih2, ih3, ih4⟩ := spec_l05Node.mono_l k
 unfold spec_l05Node.f
 repeat' first
   | (with_reducible exact ih0 _ _ _ _ _ _)
   | (with_reducible exact ih1 _ _ _ _ _)
   | (with_reducible exact ih2 _ _ _ _ _)
   | (with_reducible exact ih3 _ _ _ _ _ _)
   | (with_reducible exact ih4 _ _ _ _ _ _)
   | (with_reducible exact LeO.refl _)
   | (with_reducible exact LeO.none _)
   | (with_reducible refine LeO.ite ?_ ?_)
   | (with_reducible refine LeO.bind ?_ (fun _ => ?_))
   | exact ih0 _ _ _ _ _ _
   | exact ih1 _ _ _ _ _
   | exact ih2 _ _ _ _ _
   | exact ih3 _ _ _ _ _ _
   | exact ih4 _ _ _ _ _ _
   | exact LeO.none _
   | refine LeO.ite ?_ ?_
   | refine LeO.bind ?_ (fun _ => ?_)
set_option maxHeartbeats 8000000 in
set_option maxRecDepth 100000 in
theorem spec_l05Node.calls (k : Nat) (A0_0 : Option Addr) (c0_0 : Nat) (l0_0 : List (S58)) (a1 : Int) (r : Bool) (w : World) (hr0_0 : Kd.C k58 w A0_0 l0_0.length l0_0) (hc0_0 : l0_0.length ≤ c0_0) (h : spec_l05Node.f k l0_0 a1 = some r) :
  Calls Try.prog 48 #[.agg #[.slice A0_0 l0_0.length c0_0], .int .i64 a1] w fun e w' => e = .returned (.bool r) ∧ Below w.heap.size w w' := by
 have hu31 := Try.underlying31
 have hu58 := Try.underlying58
 have HR0_0 := Aside0.mk hr0_0
 have HC0_0 := Aside0.mk hc0_0
 clear hr0_0 hc0_0
 have HB := Aside0.mk (Below.refl w.heap.size w)
 have H : (if 0 ≤ a1 then (if a1 < (l0_0.length : Int) then ((spec_l01In.f (((rd_T58 l0_0 a1).f1).length : Int) 1 4).bind fun t220 => (if t220 = true then (spec_l05Node.l0 k a1 0 ((rd_T58 l0_0 a1).f0) ((rd_T58 l0_0 a1).f1) ((rd_T58 l0_0 a1).f2) ((rd_T58 l0_0 a1).f3)) else (some false))) else (none)) else (none)) = some r := h
 clear h
 by_cases c3 : 0 ≤ a1
 ·
  rw [if_pos c3] at H
  have c3b0 : decide (0 ≤ a1) = true := decide_eq_true c3
  clear c3
  by_cases c4 : a1 < (l0_0.length : Int)
  ·
   rw [if_pos c4] at H
   have c4b0 : decide (a1 < (l0_0.length : Int)) = true := decide_eq_true c4
   clear c4
   replace H := Option.bind_eq_some_iff.mp H
   obtain ⟨t220, A50, H⟩ := H
   replace H : (if t220 = true then (spec_l05Node.l0 k a1 0 ((rd_T58 l0_0 a1).f0) ((rd_T58 l0_0 a1).f1) ((rd_T58 l0_0 a1).f2) ((rd_T58 l0_0 a1).f3)) else (some false)) = some r := H
   have A5 := Aside0.mk A50
   clear A50
   by_cases c6 : t220 = true
   ·
    subst c6
    have H1 : (spec_l05Node.l0 k a1 0 ((rd_T58 l0_0 a1).f0) ((rd_T58 l0_0 a1).f1) ((rd_T58 l0_0 a1).f2) ((rd_T58 l0_0 a1).f3)) = some r := by rw [if_pos rfl] at H; exact H
    clear H
    have H := H1
    clear H1
    have H' := Aside0.mk H
    clear H
    go_enter Try.func48, Try.ntmps48
    go_wp2_with (first | ((with_reducible refine gate_dst (N := 2) rfl ?_); (try (refine gate_guard (by rfl) ?_; dsimp only)); refine box_event ?hg (N := 2) ?hd (cs := #[.slice A0_0 l0_0.length c0_0]) (t := 31) ?hr ?_; (case hd => rfl); (case hg => rfl); (case hr => first | (go_simp; done) | (go_simp; rfl)); intro gb217 hg w7 hbox hb; have n0_ := Aside0.mk (below_step (by repeat (first | exact HB.out | apply below_alloc | apply pw_below_drewN | apply below_drew1)) hb); have n1_ := Aside0.mk (hbox); have n2_ := Aside0.mk ((by rw [hg]; exact (below_size (by repeat (first | exact HB.out | apply below_alloc | apply pw_below_drewN | apply below_drew1))) : w.heap.size ≤ gb217)); have n3_ := Aside0.mk ((by rw [hg]; exact (below_size (by repeat (first | exact HB.out | apply below_alloc | apply pw_below_drewN | apply below_drew1))) : w.heap.size ≤ gb217)); clear HB; have HB := n0_; have BK217 := n1_; have GW217 := n2_; have GE217 := n3_; clear n0_ n1_ n2_ n3_; clear hb hbox hg; have hcz8_0 : w7.cell? ⟨gb217, 0, none⟩ = some (.slice A0_0 l0_0.length c0_0) := (blk_cell BK217.out 0).trans rfl; have hfz8_0 := blk_frozen BK217.out 0; have p218 : 0 ≤ (a1 : Int) := of_decide_eq_true (by with_reducible assumption); have q218 : a1 < (l0_0.length : Int) := of_decide_eq_true (by with_reducible assumption); obtain ⟨ad218, A218_1, c218_1, A218_2, c218_2, A218_3, c218_3, e218, hx218_0, hx218_1, hx218_2, hx218_3, hl218_1, hi218_1, hl218_2, hi218_2, hl218_3, hi218_3⟩ := at_T58 HR0_0.out a1 p218 q218; cases e218; replace hx218_0 := (HB.out.cell (World.block_lt_of_cell? w _ hx218_0)).trans hx218_0; replace hx218_1 := (HB.out.cell (World.block_lt_of_cell? w _ hx218_1)).trans hx218_1; replace hx218_2 := (HB.out.cell (World.block_lt_of_cell? w _ hx218_2)).trans hx218_2; replace hx218_3 := (HB.out.cell (World.block_lt_of_cell? w _ hx218_3)).trans hx218_3; have HR218_1 := Aside0.mk hi218_1; have HC218_1 := Aside0.mk hl218_1; clear hi218_1 hl218_1; have HR218_2 := Aside0.mk hi218_2; have HC218_2 := Aside0.mk hl218_2; clear hi218_2 hl218_2; have HR218_3 := Aside0.mk hi218_3; have HC218_3 := Aside0.mk hl218_3; clear hi218_3 hl218_3; replace p218 := eq_true p218; replace q218 := eq_true q218) | ((with_reducible refine gate_dst (N := 5) rfl ?_); (try (refine gate_guard (by rfl) ?_; dsimp only)); refine box_event ?hg (N := 5) ?hd (cs := #[.bool false, .slice none 0 0, .slice none 0 0, .slice none 0 0]) (t := 58) ?hr ?_; (case hd => rfl); (case hg => rfl); (case hr => first | (go_simp; done) | (go_simp; rfl)); intro gb219 hg w9 hbox hb; have n0_ := Aside0.mk (blk_below (g := gb217) (o := .cells #[.slice (some ad218) l0_0.length c0_0] 31 (0, 0)) (by (with_reducible repeat (first | refine blk_drewN ?_ _ | refine blk_drew ?_ | refine blk_alloc ?_ _)); exact BK217.out) hb); have n1_ := Aside0.mk (below_step (by repeat (first | (with_reducible first | exact HB.out | apply below_alloc | apply pw_below_drewN | apply below_drew1 | refine below_set ?_ GE217.out) | exact HB.out)) hb); have n2_ := Aside0.mk (hbox); have n3_ := Aside0.mk ((by rw [hg]; exact (below_size (by repeat (first | (with_reducible first | exact HB.out | apply below_alloc | apply pw_below_drewN | apply below_drew1 | refine below_set ?_ GE217.out) | exact HB.out))) : w.heap.size ≤ gb219)); have n4_ := Aside0.mk ((by rw [hg]; exact (below_size (by repeat (first | (with_reducible first | exact HB.out | apply below_alloc | apply pw_below_drewN | apply below_drew1 | refine below_set ?_ GE217.out) | exact HB.out))) : w.heap.size ≤ gb219)); have n5_ := Aside0.mk ((by rw [hg]; exact Nat.ne_of_lt (blk_lt (g := gb217) (o := .cells #[.slice (some ad218) l0_0.length c0_0] 31 (0, 0)) (by (with_reducible repeat (first | refine blk_drewN ?_ _ | refine blk_drew ?_ | refine blk_alloc ?_ _)); exact BK217.out)) : gb217 ≠ gb219)); have n6_ := Aside0.mk ((by rw [hg]; exact Nat.ne_of_gt (blk_lt (g := gb217) (o := .cells #[.slice (some ad218) l0_0.length c0_0] 31 (0, 0)) (by (with_reducible repeat (first | refine blk_drewN ?_ _ | refine blk_drew ?_ | refine blk_alloc ?_ _)); exact BK217.out)) : gb219 ≠ gb217)); clear BK217; clear HB; have BK217 := n0_; have HB := n1_; have BK219 := n2_; have GW219 := n3_; have GE219 := n4_; have NB217_219 := n5_; have NB219_217 := n6_; clear n0_ n1_ n2_ n3_ n4_ n5_ n6_; clear hb hbox hg; have hnb10 := NB219_217.out; have hnc10 := NB217_219.out; have hcz11_0 : w9.cell? ⟨gb219, 0, none⟩ = some (.bool false) := (blk_cell BK219.out 0).trans rfl; have hcz11_1 : w9.cell? ⟨gb219, 1, none⟩ = some (.slice none 0 0) := (blk_cell BK219.out 1).trans rfl; have hcz11_2 : w9.cell? ⟨gb219, 2, none⟩ = some (.slice none 0 0) := (blk_cell BK219.out 2).trans rfl; have hcz11_3 : w9.cell? ⟨gb219, 3, none⟩ = some (.slice none 0 0) := (blk_cell BK219.out 3).trans rfl; have hfz11_0 := blk_frozen BK219.out 0; have hfz11_1 := blk_frozen BK219.out 1; have hfz11_2 := blk_frozen BK219.out 2; have hfz11_3 := blk_frozen BK219.out 3) | (go_at_call 32; (with_reducible refine (spec_l01In.calls (((rd_T58 l0_0 a1).f1).length : Int) 1 4 true _ A5.out).mono ?_); rintro e w' ⟨rfl, ⟨nd, rfl⟩⟩; (try first | exact ⟨rfl, _, World.drewN_drewN _ _ _⟩ | exact ⟨rfl, _, Eq.trans (World.drewN_drewN _ _ _) (congrArg (World.drewN _) (Nat.add_assoc _ _ _))⟩)))
    repeat (go_quiet (first | ((with_reducible refine gate_dst (N := 2) rfl ?_); (try (refine gate_guard (by rfl) ?_; dsimp only)); refine box_event ?hg (N := 2) ?hd (cs := #[.slice A0_0 l0_0.length c0_0]) (t := 31) ?hr ?_; (case hd => rfl); (case hg => rfl); (case hr => first | (go_simp; done) | (go_simp; rfl)); intro gb217 hg w7 hbox hb; have n0_ := Aside0.mk (below_step (by repeat (first | exact HB.out | apply below_alloc | apply pw_below_drewN | apply below_drew1)) hb); have n1_ := Aside0.mk (hbox); have n2_ := Aside0.mk ((by rw [hg]; exact (below_size (by repeat (first | exact HB.out | apply below_alloc | apply pw_below_drewN | apply below_drew1))) : w.heap.size ≤ gb217)); have n3_ := Aside0.mk ((by rw [hg]; exact (below_size (by repeat (first | exact HB.out | apply below_alloc | apply pw_below_drewN | apply below_drew1))) : w.heap.size ≤ gb217)); clear HB; have HB := n0_; have BK217 := n1_; have GW217 := n2_; have GE217 := n3_; clear n0_ n1_ n2_ n3_; clear hb hbox hg; have hcz8_0 : w7.cell? ⟨gb217, 0, none⟩ = some (.slice A0_0 l0_0.length c0_0) := (blk_cell BK217.out 0).trans rfl; have hfz8_0 := blk_frozen BK217.out 0; have p218 : 0 ≤ (a1 : Int) := of_decide_eq_true (by with_reducible assumption); have q218 : a1 < (l0_0.length : Int) := of_decide_eq_true (by with_reducible assumption); obtain ⟨ad218, A218_1, c218_1, A218_2, c218_2, A218_3, c218_3, e218, hx218_0, hx218_1, hx218_2, hx218_3, hl218_1, hi218_1, hl218_2, hi218_2, hl218_3, hi218_3⟩ := at_T58 HR0_0.out a1 p218 q218; cases e218; replace hx218_0 := (HB.out.cell (World.block_lt_of_cell? w _ hx218_0)).trans hx218_0; replace hx218_1 := (HB.out.cell (World.block_lt_of_cell? w _ hx218_1)).trans hx218_1; replace hx218_2 := (HB.out.cell (World.block_lt_of_cell? w _ hx218_2)).trans hx218_2; replace hx218_3 := (HB.out.cell (World.block_lt_of_cell? w _ hx218_3)).trans hx218_3; have HR218_1 := Aside0.mk hi218_1; have HC218_1 := Aside0.mk hl218_1; clear hi218_1 hl218_1; have HR218_2 := Aside0.mk hi218_2; have HC218_2 := Aside0.mk hl218_2; clear hi218_2 hl218_2; have HR218_3 := Aside0.mk hi218_3; have HC218_3 := Aside0.mk hl218_3; clear hi218_3 hl218_3; replace p218 := eq_true p218; replace q218 := eq_true q218) | ((with_reducible refine gate_dst (N := 5) rfl ?_); (try (refine gate_guard (by rfl) ?_; dsimp only)); refine box_event ?hg (N := 5) ?hd (cs := #[.bool false, .slice none 0 0, .slice none 0 0, .slice none 0 0]) (t := 58) ?hr ?_; (case hd => rfl); (case hg => rfl); (case hr => first | (go_simp; done) | (go_simp; rfl)); intro gb219 hg w9 hbox hb; have n0_ := Aside0.mk (blk_below (g := gb217) (o := .cells #[.slice (some ad218) l0_0.length c0_0] 31 (0, 0)) (by (with_reducible repeat (first | refine blk_drewN ?_ _ | refine blk_drew ?_ | refine blk_alloc ?_ _)); exact BK217.out) hb); have n1_ := Aside0.mk (below_step (by repeat (first | (with_reducible first | exact HB.out | apply below_alloc | apply pw_below_drewN | apply below_drew1 | refine below_set ?_ GE217.out) | exact HB.out)) hb); have n2_ := Aside0.mk (hbox); have n3_ := Aside0.mk ((by rw [hg]; exact (below_size (by repeat (first | (with_reducible first | exact HB.out | apply below_alloc | apply pw_below_drewN | apply below_drew1 | refine below_set ?_ GE217.out) | exact HB.out))) : w.heap.size ≤ gb219)); have n4_ := Aside0.mk ((by rw [hg]; exact (below_size (by repeat (first | (with_reducible first | exact HB.out | apply below_alloc | apply pw_below_drewN | apply below_drew1 | refine below_set ?_ GE217.out) | exact HB.out))) : w.heap.size ≤ gb219)); have n5_ := Aside0.mk ((by rw [hg]; exact Nat.ne_of_lt (blk_lt (g := gb217) (o := .cells #[.slice (some ad218) l0_0.length c0_0] 31 (0, 0)) (by (with_reducible repeat (first | refine blk_drewN ?_ _ | refine blk_drew ?_ | refine blk_alloc ?_ _)); exact BK217.out)) : gb217 ≠ gb219)); have n6_ := Aside0.mk ((by rw [hg]; exact Nat.ne_of_gt (blk_lt (g := gb217) (o := .cells #[.slice (some ad218) l0_0.length c0_0] 31 (0, 0)) (by (with_reducible repeat (first | refine blk_drewN ?_ _ | refine blk_drew ?_ | refine blk_alloc ?_ _)); exact BK217.out)) : gb219 ≠ gb217)); clear BK217; clear HB; have BK217 := n0_; have HB := n1_; have BK219 := n2_; have GW219 := n3_; have GE219 := n4_; have NB217_219 := n5_; have NB219_217 := n6_; clear n0_ n1_ n2_ n3_ n4_ n5_ n6_; clear hb hbox hg; have hnb10 := NB219_217.out; have hnc10 := NB217_219.out; have hcz11_0 : w9.cell? ⟨gb219, 0, none⟩ = some (.bool false) := (blk_cell BK219.out 0).trans rfl; have hcz11_1 : w9.cell? ⟨gb219, 1, none⟩ = some (.slice none 0 0) := (blk_cell BK219.out 1).trans rfl; have hcz11_2 : w9.cell? ⟨gb219, 2, none⟩ = some (.slice none 0 0) := (blk_cell BK219.out 2).trans rfl; have hcz11_3 : w9.cell? ⟨gb219, 3, none⟩ = some (.slice none 0 0) := (blk_cell BK219.out 3).trans rfl; have hfz11_0 := blk_frozen BK219.out 0; have hfz11_1 := blk_frozen BK219.out 1; have hfz11_2 := blk_frozen BK219.out 2; have hfz11_3 := blk_frozen BK219.out 3) | (go_at_call 32; (try simp only [i64_w]); (with_reducible refine (spec_l01In.calls (((rd_T58 l0_0 a1).f1).length : Int) 1 4 true _ A5.out).mono ?_); rintro e w' ⟨rfl, ⟨nd, rfl⟩⟩; (try first | exact ⟨rfl, _, World.drewN_drewN _ _ _⟩ | exact ⟨rfl, _, Eq.trans (World.drewN_drewN _ _ _) (congrArg (World.drewN _) (Nat.add_assoc _ _ _))⟩))); try go_wp2_with (first | ((with_reducible refine gate_dst (N := 2) rfl ?_); (try (refine gate_guard (by rfl) ?_; dsimp only)); refine box_event ?hg (N := 2) ?hd (cs := #[.slice A0_0 l0_0.length c0_0]) (t := 31) ?hr ?_; (case hd => rfl); (case hg => rfl); (case hr => first | (go_simp; done) | (go_simp; rfl)); intro gb217 hg w7 hbox hb; have n0_ := Aside0.mk (below_step (by repeat (first | exact HB.out | apply below_alloc | apply pw_below_drewN | apply below_drew1)) hb); have n1_ := Aside0.mk (hbox); have n2_ := Aside0.mk ((by rw [hg]; exact (below_size (by repeat (first | exact HB.out | apply below_alloc | apply pw_below_drewN | apply below_drew1))) : w.heap.size ≤ gb217)); have n3_ := Aside0.mk ((by rw [hg]; exact (below_size (by repeat (first | exact HB.out | apply below_alloc | apply pw_below_drewN | apply below_drew1))) : w.heap.size ≤ gb217)); clear HB; have HB := n0_; have BK217 := n1_; have GW217 := n2_; have GE217 := n3_; clear n0_ n1_ n2_ n3_; clear hb hbox hg; have hcz8_0 : w7.cell? ⟨gb217, 0, none⟩ = some (.slice A0_0 l0_0.length c0_0) := (blk_cell BK217.out 0).trans rfl; have hfz8_0 := blk_frozen BK217.out 0; have p218 : 0 ≤ (a1 : Int) := of_decide_eq_true (by with_reducible assumption); have q218 : a1 < (l0_0.length : Int) := of_decide_eq_true (by with_reducible assumption); obtain ⟨ad218, A218_1, c218_1, A218_2, c218_2, A218_3, c218_3, e218, hx218_0, hx218_1, hx218_2, hx218_3, hl218_1, hi218_1, hl218_2, hi218_2, hl218_3, hi218_3⟩ := at_T58 HR0_0.out a1 p218 q218; cases e218; replace hx218_0 := (HB.out.cell (World.block_lt_of_cell? w _ hx218_0)).trans hx218_0; replace hx218_1 := (HB.out.cell (World.block_lt_of_cell? w _ hx218_1)).trans hx218_1; replace hx218_2 := (HB.out.cell (World.block_lt_of_cell? w _ hx218_2)).trans hx218_2; replace hx218_3 := (HB.out.cell (World.block_lt_of_cell? w _ hx218_3)).trans hx218_3; have HR218_1 := Aside0.mk hi218_1; have HC218_1 := Aside0.mk hl218_1; clear hi218_1 hl218_1; have HR218_2 := Aside0.mk hi218_2; have HC218_2 := Aside0.mk hl218_2; clear hi218_2 hl218_2; have HR218_3 := Aside0.mk hi218_3; have HC218_3 := Aside0.mk hl218_3; clear hi218_3 hl218_3; replace p218 := eq_true p218; replace q218 := eq_true q218) | ((with_reducible refine gate_dst (N := 5) rfl ?_); (try (refine gate_guard (by rfl) ?_; dsimp only)); refine box_event ?hg (N := 5) ?hd (cs := #[.bool false, .slice none 0 0, .slice none 0 0, .slice none 0 0]) (t := 58) ?hr ?_; (case hd => rfl); (case hg => rfl); (case hr => first | (go_simp; done) | (go_simp; rfl)); intro gb219 hg w9 hbox hb; have n0_ := Aside0.mk (blk_below (g := gb217) (o := .cells #[.slice (some ad218) l0_0.length c0_0] 31 (0, 0)) (by (with_reducible repeat (first | refine blk_drewN ?_ _ | refine blk_drew ?_ | refine blk_alloc ?_ _)); exact BK217.out) hb); have n1_ := Aside0.mk (below_step (by repeat (first | (with_reducible first | exact HB.out | apply below_alloc | apply pw_below_drewN | apply below_drew1 | refine below_set ?_ GE217.out) | exact HB.out)) hb); have n2_ := Aside0.mk (hbox); have n3_ := Aside0.mk ((by rw [hg]; exact (below_size (by repeat (first | (with_reducible first | exact HB.out | apply below_alloc | apply pw_below_drewN | apply below_drew1 | refine below_set ?_ GE217.out) | exact HB.out))) : w.heap.size ≤ gb219)); have n4_ := Aside0.mk ((by rw [hg]; exact (below_size (by repeat (first | (with_reducible first | exact HB.out | apply below_alloc | apply pw_below_drewN | apply below_drew1 | refine below_set ?_ GE217.out) | exact HB.out))) : w.heap.size ≤ gb219)); have n5_ := Aside0.mk ((by rw [hg]; exact Nat.ne_of_lt (blk_lt (g := gb217) (o := .cells #[.slice (some ad218) l0_0.length c0_0] 31 (0, 0)) (by (with_reducible repeat (first | refine blk_drewN ?_ _ | refine blk_drew ?_ | refine blk_alloc ?_ _)); exact BK217.out)) : gb217 ≠ gb219)); have n6_ := Aside0.mk ((by rw [hg]; exact Nat.ne_of_gt (blk_lt (g := gb217) (o := .cells #[.slice (some ad218) l0_0.length c0_0] 31 (0, 0)) (by (with_reducible repeat (first | refine blk_drewN ?_ _ | refine blk_drew ?_ | refine blk_alloc ?_ _)); exact BK217.out)) : gb219 ≠ gb217)); clear BK217; clear HB; have BK217 := n0_; have HB := n1_; have BK219 := n2_; have GW219 := n3_; have GE219 := n4_; have NB217_219 := n5_; have NB219_217 := n6_; clear n0_ n1_ n2_ n3_ n4_ n5_ n6_; clear hb hbox hg; have hnb10 := NB219_217.out; have hnc10 := NB217_219.out; have hcz11_0 : w9.cell? ⟨gb219, 0, none⟩ = some (.bool false) := (blk_cell BK219.out 0).trans rfl; have hcz11_1 : w9.cell? ⟨gb219, 1, none⟩ = some (.slice none 0 0) := (blk_cell BK219.out 1).trans rfl; have hcz11_2 : w9.cell? ⟨gb219, 2, none⟩ = some (.slice none 0 0) := (blk_cell BK219.out 2).trans rfl; have hcz11_3 : w9.cell? ⟨gb219, 3, none⟩ = some (.slice none 0 0) := (blk_cell BK219.out 3).trans rfl; have hfz11_0 := blk_frozen BK219.out 0; have hfz11_1 := blk_frozen BK219.out 1; have hfz11_2 := blk_frozen BK219.out 2; have hfz11_3 := blk_frozen BK219.out 3) | (go_at_call 32; (with_reducible refine (spec_l01In.calls (((rd_T58 l0_0 a1).f1).length : Int) 1 4 true _ A5.out).mono ?_); rintro e w' ⟨rfl, ⟨nd, rfl⟩⟩; (try first | exact ⟨rfl, _, World.drewN_drewN _ _ _⟩ | exact ⟨rfl, _, Eq.trans (World.drewN_drewN _ _ _) (congrArg (World.drewN _) (Nat.add_assoc _ _ _))⟩))))
    go_loopg [6] k (fun kq v6 w' => ∃ (x6_1 : Int), v6 = .int .i64 x6_1 ∧ Aside0 (spec_l05Node.l0 kq a1 x6_1 ((rd_T58 l0_0 a1).f0) ((rd_T58 l0_0 a1).f1) ((rd_T58 l0_0 a1).f2) ((rd_T58 l0_0 a1).f3) = some r) ∧ Aside0 (kq ≤ k) ∧ Aside0 (w'.heap[gb217]? = some (.cells #[(.slice (some ad218) l0_0.length c0_0)] 31 (0, 0))) ∧ Aside0 (w'.heap[gb219]? = some (.cells #[.bool ((rd_T58 l0_0 a1).f0), (.slice A218_1 ((rd_T58 l0_0 a1).f1).length c218_1), (.slice A218_2 ((rd_T58 l0_0 a1).f2).length c218_2), (.slice A218_3 ((rd_T58 l0_0 a1).f3).length c218_3)] 58 (0, 0))) ∧ Aside0 (Below w.heap.size w w'))
    case atStart => exact ⟨(0), (by first | rfl | (simp; done) | (simp [*]; done)), H', ⟨Nat.le_refl _⟩, ⟨by (with_reducible repeat (first | refine blk_drewN ?_ _ | refine blk_drew ?_ | refine blk_alloc ?_ _)); refine blk_far ?_ NB217_219.out _; (with_reducible repeat (first | refine blk_drewN ?_ _ | refine blk_drew ?_ | refine blk_alloc ?_ _)); refine blk_far ?_ NB217_219.out _; (with_reducible repeat (first | refine blk_drewN ?_ _ | refine blk_drew ?_ | refine blk_alloc ?_ _)); refine blk_far ?_ NB217_219.out _; (with_reducible repeat (first | refine blk_drewN ?_ _ | refine blk_drew ?_ | refine blk_alloc ?_ _)); refine blk_far ?_ NB217_219.out _; (with_reducible repeat (first | refine blk_drewN ?_ _ | refine blk_drew ?_ | refine blk_alloc ?_ _)); exact BK217.out⟩, ⟨by (with_reducible repeat (first | refine blk_drewN ?_ _ | refine blk_drew ?_ | refine blk_alloc ?_ _)); refine blk_put (cs := #[.bool ((rd_T58 l0_0 a1).f0), .slice A218_1 ((rd_T58 l0_0 a1).f1).length c218_1, .slice A218_2 ((rd_T58 l0_0 a1).f2).length c218_2, .slice none 0 0]) ?_ 3 _ rfl; (with_reducible repeat (first | refine blk_drewN ?_ _ | refine blk_drew ?_ | refine blk_alloc ?_ _)); refine blk_put (cs := #[.bool ((rd_T58 l0_0 a1).f0), .slice A218_1 ((rd_T58 l0_0 a1).f1).length c218_1, .slice none 0 0, .slice none 0 0]) ?_ 2 _ rfl; (with_reducible repeat (first | refine blk_drewN ?_ _ | refine blk_drew ?_ | refine blk_alloc ?_ _)); refine blk_put (cs := #[.bool ((rd_T58 l0_0 a1).f0), .slice none 0 0, .slice none 0 0, .slice none 0 0]) ?_ 1 _ rfl; (with_reducible repeat (first | refine blk_drewN ?_ _ | refine blk_drew ?_ | refine blk_alloc ?_ _)); refine blk_put (cs := #[.bool false, .slice none 0 0, .slice none 0 0, .slice none 0 0]) ?_ 0 _ rfl; (with_reducible repeat (first | refine blk_drewN ?_ _ | refine blk_drew ?_ | refine blk_alloc ?_ _)); exact BK219.out⟩, ⟨by repeat (first | (with_reducible first | exact HB.out | apply below_alloc | apply pw_below_drewN | apply below_drew1 | refine below_set ?_ GE217.out | refine below_set ?_ GE219.out) | exact HB.out)⟩⟩
    case round =>
     clear H'
     (try clear c1); (try clear c2); (try clear p2); (try clear q2); (try clear hx2); (try clear c3); (try clear c3b0); (try clear c4); (try clear c4b0); (try clear c6); (try clear c10); (try clear hcz11_0); (try clear hcz11_1); (try clear hcz11_2); (try clear hcz11_3); (try clear hcz8_0); (try clear hfz11_0); (try clear hfz11_1); (try clear hfz11_2); (try clear hfz11_3); (try clear hfz8_0); (try clear hx218_0); (try clear hx218_1); (try clear hx218_2); (try clear hx218_3); (try clear p218); (try clear q218)
     obtain ⟨x6_1, rfl, HA, HK1, BK217, BK219, HB⟩ := hrel
     cases gk with
     | zero => exact absurd HA.out (by simp [spec_l05Node.l0])
     | succ k1 =>
      have H := HA.out
      clear HA
      simp only [spec_l05Node.l0] at H
      by_cases c12 : x6_1 < (((rd_T58 l0_0 a1).f1).length : Int)
      ·
       rw [if_pos c12] at H
       have c12b0 : decide (x6_1 < (((rd_T58 l0_0 a1).f1).length : Int)) = true := decide_eq_true c12
       clear c12
       by_cases c13 : 0 ≤ x6_1
       ·
        rw [if_pos c13] at H
        have c13b0 : decide (0 ≤ x6_1) = true := decide_eq_true c13
        clear c13
        by_cases c14 : ((rdOf ByteArray.empty ((rd_T58 l0_0 a1).f1) x6_1).size : Int) > 80
        ·
         rw [if_pos c14] at H
         have c14b0 : decide (80 < ((rdOf ByteArray.empty ((rd_T58 l0_0 a1).f1) x6_1).size : Int)) = true := decide_eq_true c14
         have c14b1 : decide (80 < (rdOf ByteArray.empty ((rd_T58 l0_0 a1).f1) x6_1).size) = true := decide_eq_true (by omega)
         clear c14
         obtain rfl := Option.some.inj H
         have hnb15 := NB219_217.out
         have hnc15 := NB217_219.out
         have hcz16_0 : wr.cell? ⟨gb219, 0, none⟩ = some (.bool ((rd_T58 l0_0 a1).f0)) := (blk_cell BK219.out 0).trans rfl
         have hcz16_1 : wr.cell? ⟨gb219, 1, none⟩ = some (.slice A218_1 ((rd_T58 l0_0 a1).f1).length c218_1) := (blk_cell BK219.out 1).trans rfl
         have hcz16_2 : wr.cell? ⟨gb219, 2, none⟩ = some (.slice A218_2 ((rd_T58 l0_0 a1).f2).length c218_2) := (blk_cell BK219.out 2).trans rfl
         have hcz16_3 : wr.cell? ⟨gb219, 3, none⟩ = some (.slice A218_3 ((rd_T58 l0_0 a1).f3).length c218_3) := (blk_cell BK219.out 3).trans rfl
         have hfz16_0 := blk_frozen BK219.out 0
         have hfz16_1 := blk_frozen BK219.out 1
         have hfz16_2 := blk_frozen BK219.out 2
         have hfz16_3 := blk_frozen BK219.out 3
         have p221 : 0 ≤ (x6_1 : Int) := of_decide_eq_true (by with_reducible assumption)
         have q221 : x6_1 < (((rd_T58 l0_0 a1).f1).length : Int) := of_decide_eq_true (by with_reducible assumption)
         obtain ⟨ad221, e221, hx221_0⟩ := Kd.at_string HR218_1.out x6_1 p221 q221
         cases e221
         replace hx221_0 := (HB.out.cell (World.block_lt_of_cell? w _ hx221_0)).trans hx221_0
         replace p221 := eq_true p221
         replace q221 := eq_true q221
         go_wp2
         repeat (go_quiet (fail); try go_wp2)
         go_ret
         exact ⟨by first | rfl | (simp [errW_none, errW_some] <;> rfl) | (simp [*, errW_none, errW_some] <;> rfl), by repeat (first | (with_reducible first | exact HB.out | apply below_alloc | apply pw_below_drewN | apply below_drew1 | refine below_set ?_ GE217.out | refine below_set ?_ GE219.out) | exact HB.out)⟩
        ·
         rw [if_neg c14] at H
         have c14b0 : decide (80 < ((rdOf ByteArray.empty ((rd_T58 l0_0 a1).f1) x6_1).size : Int)) = false := decide_eq_false c14
         have c14b1 : decide (80 < (rdOf ByteArray.empty ((rd_T58 l0_0 a1).f1) x6_1).size) = false := decide_eq_false (by omega)
         clear c14
         by_cases c17 : x6_1 > 0
         ·
          rw [if_pos c17] at H
          have c17b0 : decide (0 < x6_1) = true := decide_eq_true c17
          clear c17
          obtain ⟨ji18, hji18⟩ : ∃ j_ : Int, (wrap64 (x6_1 - 1)) = j_ := ⟨_, rfl⟩
          replace H : (if 0 ≤ (ji18) then (if (ji18) < (((rd_T58 l0_0 a1).f1).length : Int) then (if ((Op.bytesLess ((rdOf ByteArray.empty ((rd_T58 l0_0 a1).f1) (ji18)).toList) ((rdOf ByteArray.empty ((rd_T58 l0_0 a1).f1) x6_1).toList)) = true) then (spec_l05Node.l0 k1 a1 (wrap64 (x6_1 + 1)) ((rd_T58 l0_0 a1).f0) ((rd_T58 l0_0 a1).f1) ((rd_T58 l0_0 a1).f2) ((rd_T58 l0_0 a1).f3)) else (some false)) else (none)) else (none)) = some r := by first | (rw [hji18] at H; exact H) | (simp only [hji18] at H ⊢; exact H)
          have hji18w : (IntKind.i64.wrap (x6_1 - 1)) = ji18 := (i64_w _).trans hji18
          by_cases c19 : 0 ≤ (ji18)
          ·
           rw [if_pos c19] at H
           have c19b0 : decide (0 ≤ (ji18)) = true := decide_eq_true c19
           clear c19
           by_cases c20 : (ji18) < (((rd_T58 l0_0 a1).f1).length : Int)
           ·
            rw [if_pos c20] at H
            have c20b0 : decide ((ji18) < (((rd_T58 l0_0 a1).f1).length : Int)) = true := decide_eq_true c20
            clear c20
            by_cases c21 : ((Op.bytesLess ((rdOf ByteArray.empty ((rd_T58 l0_0 a1).f1) (ji18)).toList) ((rdOf ByteArray.empty ((rd_T58 l0_0 a1).f1) x6_1).toList)) = true)
            ·
             rw [if_pos c21] at H
             have c21b0 : (Op.bytesLess ((rdOf ByteArray.empty ((rd_T58 l0_0 a1).f1) (ji18)).toList) ((rdOf ByteArray.empty ((rd_T58 l0_0 a1).f1) x6_1).toList)) = true := c21
             clear c21
             have H' := Aside0.mk H
             clear H
             have hnb22 := NB219_217.out
             have hnc22 := NB217_219.out
             have hcz23_0 : wr.cell? ⟨gb219, 0, none⟩ = some (.bool ((rd_T58 l0_0 a1).f0)) := (blk_cell BK219.out 0).trans rfl
             have hcz23_1 : wr.cell? ⟨gb219, 1, none⟩ = some (.slice A218_1 ((rd_T58 l0_0 a1).f1).length c218_1) := (blk_cell BK219.out 1).trans rfl
             have hcz23_2 : wr.cell? ⟨gb219, 2, none⟩ = some (.slice A218_2 ((rd_T58 l0_0 a1).f2).length c218_2) := (blk_cell BK219.out 2).trans rfl
             have hcz23_3 : wr.cell? ⟨gb219, 3, none⟩ = some (.slice A218_3 ((rd_T58 l0_0 a1).f3).length c218_3) := (blk_cell BK219.out 3).trans rfl
             have hfz23_0 := blk_frozen BK219.out 0
             have hfz23_1 := blk_frozen BK219.out 1
             have hfz23_2 := blk_frozen BK219.out 2
             have hfz23_3 := blk_frozen BK219.out 3
             have p221 : 0 ≤ (x6_1 : Int) := of_decide_eq_true (by with_reducible assumption)
             have q221 : x6_1 < (((rd_T58 l0_0 a1).f1).length : Int) := of_decide_eq_true (by with_reducible assumption)
             obtain ⟨ad221, e221, hx221_0⟩ := Kd.at_string HR218_1.out x6_1 p221 q221
             cases e221
             replace hx221_0 := (HB.out.cell (World.block_lt_of_cell? w _ hx221_0)).trans hx221_0
             replace p221 := eq_true p221
             replace q221 := eq_true q221
             have p222 : 0 ≤ ((ji18) : Int) := of_decide_eq_true (by with_reducible assumption)
             have q222 : (ji18) < (((rd_T58 l0_0 a1).f1).length : Int) := of_decide_eq_true (by with_reducible assumption)
             obtain ⟨ad222, e222, hx222_0⟩ := Kd.at_string HR218_1.out (ji18) p222 q222
             obtain rfl : ad221 = ad222 := (by injection e222)
             replace hx222_0 := (HB.out.cell (World.block_lt_of_cell? w _ hx222_0)).trans hx222_0
             replace p222 := eq_true p222
             replace q222 := eq_true q222
             have p223 : 0 ≤ (x6_1 : Int) := of_decide_eq_true (by with_reducible assumption)
             have q223 : x6_1 < (((rd_T58 l0_0 a1).f1).length : Int) := of_decide_eq_true (by with_reducible assumption)
             obtain ⟨ad223, e223, hx223_0⟩ := Kd.at_string HR218_1.out x6_1 p223 q223
             obtain rfl : ad221 = ad223 := (by injection e223)
             replace hx223_0 := (HB.out.cell (World.block_lt_of_cell? w _ hx223_0)).trans hx223_0
             replace p223 := eq_true p223
             replace q223 := eq_true q223
             go_wp2
             repeat (go_quiet (fail); try go_wp2)
             go_roundg k1
             case measure => have := HK1.out; omega
             case rel => exact ⟨(wrap64 (x6_1 + 1)), (by first | rfl | (simp; done) | (simp [*]; done)), H', ⟨by have := HK1.out; omega⟩, ⟨by (with_reducible repeat (first | refine blk_drewN ?_ _ | refine blk_drew ?_ | refine blk_alloc ?_ _)); exact BK217.out⟩, ⟨by (with_reducible repeat (first | refine blk_drewN ?_ _ | refine blk_drew ?_ | refine blk_alloc ?_ _)); exact BK219.out⟩, ⟨by repeat (first | (with_reducible first | exact HB.out | apply below_alloc | apply pw_below_drewN | apply below_drew1 | refine below_set ?_ GE217.out | refine below_set ?_ GE219.out) | exact HB.out)⟩⟩
            ·
             rw [if_neg c21] at H
             have c21b0 : (Op.bytesLess ((rdOf ByteArray.empty ((rd_T58 l0_0 a1).f1) (ji18)).toList) ((rdOf ByteArray.empty ((rd_T58 l0_0 a1).f1) x6_1).toList)) = false := by simpa using c21
             clear c21
             obtain rfl := Option.some.inj H
             have hnb24 := NB219_217.out
             have hnc24 := NB217_219.out
             have hcz25_0 : wr.cell? ⟨gb219, 0, none⟩ = some (.bool ((rd_T58 l0_0 a1).f0)) := (blk_cell BK219.out 0).trans rfl
             have hcz25_1 : wr.cell? ⟨gb219, 1, none⟩ = some (.slice A218_1 ((rd_T58 l0_0 a1).f1).length c218_1) := (blk_cell BK219.out 1).trans rfl
             have hcz25_2 : wr.cell? ⟨gb219, 2, none⟩ = some (.slice A218_2 ((rd_T58 l0_0 a1).f2).length c218_2) := (blk_cell BK219.out 2).trans rfl
             have hcz25_3 : wr.cell? ⟨gb219, 3, none⟩ = some (.slice A218_3 ((rd_T58 l0_0 a1).f3).length c218_3) := (blk_cell BK219.out 3).trans rfl
             have hfz25_0 := blk_frozen BK219.out 0
             have hfz25_1 := blk_frozen BK219.out 1
             have hfz25_2 := blk_frozen BK219.out 2
             have hfz25_3 := blk_frozen BK219.out 3
             have p221 : 0 ≤ (x6_1 : Int) := of_decide_eq_true (by with_reducible assumption)
             have q221 : x6_1 < (((rd_T58 l0_0 a1).f1).length : Int) := of_decide_eq_true (by with_reducible assumption)
             obtain ⟨ad221, e221, hx221_0⟩ := Kd.at_string HR218_1.out x6_1 p221 q221
             cases e221
             replace hx221_0 := (HB.out.cell (World.block_lt_of_cell? w _ hx221_0)).trans hx221_0
             replace p221 := eq_true p221
             replace q221 := eq_true q221
             have p222 : 0 ≤ ((ji18) : Int) := of_decide_eq_true (by with_reducible assumption)
             have q222 : (ji18) < (((rd_T58 l0_0 a1).f1).length : Int) := of_decide_eq_true (by with_reducible assumption)
             obtain ⟨ad222, e222, hx222_0⟩ := Kd.at_string HR218_1.out (ji18) p222 q222
             obtain rfl : ad221 = ad222 := (by injection e222)
             replace hx222_0 := (HB.out.cell (World.block_lt_of_cell? w _ hx222_0)).trans hx222_0
             replace p222 := eq_true p222
             replace q222 := eq_true q222
             have p223 : 0 ≤ (x6_1 : Int) := of_decide_eq_true (by with_reducible assumption)
             have q223 : x6_1 < (((rd_T58 l0_0 a1).f1).length : Int) := of_decide_eq_true (by with_reducible assumption)
             obtain ⟨ad223, e223, hx223_0⟩ := Kd.at_string HR218_1.out x6_1 p223 q223
             obtain rfl : ad221 = ad223 := (by injection e223)
             replace hx223_0 := (HB.out.cell (World.block_lt_of_cell? w _ hx223_0)).trans hx223_0
             replace p223 := eq_true p223
             replace q223 := eq_true q223
             go_wp2
             repeat (go_quiet (fail); try go_wp2)
             go_ret
             exact ⟨by first | rfl | (simp [errW_none, errW_some] <;> rfl) | (simp only [← hji18]; first | rfl | (simp [errW_none, errW_some] <;> rfl)) | (simp [*, errW_none, errW_some] <;> rfl), by repeat (first | (with_reducible first | exact HB.out | apply below_alloc | apply pw_below_drewN | apply below_drew1 | refine below_set ?_ GE217.out | refine below_set ?_ GE219.out) | exact HB.out)⟩
           ·
            rw [if_neg c20] at H
            exact absurd H (by simp)
          ·
           rw [if_neg c19] at H
           exact absurd H (by simp)
         ·
          rw [if_neg c17] at H
          have c17b0 : decide (0 < x6_1) = false := decide_eq_false c17
          clear c17
          have H' := Aside0.mk H
          clear H
          have hnb26 := NB219_217.out
          have hnc26 := NB217_219.out
          have hcz27_0 : wr.cell? ⟨gb219, 0, none⟩ = some (.bool ((rd_T58 l0_0 a1).f0)) := (blk_cell BK219.out 0).trans rfl
          have hcz27_1 : wr.cell? ⟨gb219, 1, none⟩ = some (.slice A218_1 ((rd_T58 l0_0 a1).f1).length c218_1) := (blk_cell BK219.out 1).trans rfl
          have hcz27_2 : wr.cell? ⟨gb219, 2, none⟩ = some (.slice A218_2 ((rd_T58 l0_0 a1).f2).length c218_2) := (blk_cell BK219.out 2).trans rfl
          have hcz27_3 : wr.cell? ⟨gb219, 3, none⟩ = some (.slice A218_3 ((rd_T58 l0_0 a1).f3).length c218_3) := (blk_cell BK219.out 3).trans rfl
          have hfz27_0 := blk_frozen BK219.out 0
          have hfz27_1 := blk_frozen BK219.out 1
          have hfz27_2 := blk_frozen BK219.out 2
          have hfz27_3 := blk_frozen BK219.out 3
          have p221 : 0 ≤ (x6_1 : Int) := of_decide_eq_true (by with_reducible assumption)
          have q221 : x6_1 < (((rd_T58 l0_0 a1).f1).length : Int) := of_decide_eq_true (by with_reducible assumption)
          obtain ⟨ad221, e221, hx221_0⟩ := Kd.at_string HR218_1.out x6_1 p221 q221
          cases e221
          replace hx221_0 := (HB.out.cell (World.block_lt_of_cell? w _ hx221_0)).trans hx221_0
          replace p221 := eq_true p221
          replace q221 := eq_true q221
          go_wp2
          repeat (go_quiet (fail); try go_wp2)
          go_roundg k1
          case measure => have := HK1.out; omega
          case rel => exact ⟨(wrap64 (x6_1 + 1)), (by first | rfl | (simp; done) | (simp [*]; done)), H', ⟨by have := HK1.out; omega⟩, ⟨by (with_reducible repeat (first | refine blk_drewN ?_ _ | refine blk_drew ?_ | refine blk_alloc ?_ _)); exact BK217.out⟩, ⟨by (with_reducible repeat (first | refine blk_drewN ?_ _ | refine blk_drew ?_ | refine blk_alloc ?_ _)); exact BK219.out⟩, ⟨by repeat (first | (with_reducible first | exact HB.out | apply below_alloc | apply pw_below_drewN | apply below_drew1 | refine below_set ?_ GE217.out | refine below_set ?_ GE219.out) | exact HB.out)⟩⟩
       ·
        rw [if_neg c13] at H
        exact absurd H (by simp)
      ·
       rw [if_neg c12] at H
       have c12b0 : decide (x6_1 < (((rd_T58 l0_0 a1).f1).length : Int)) = false := decide_eq_false c12
       clear c12
       by_cases c28 : ((rd_T58 l0_0 a1).f0) = true
       ·
        rw [if_pos c28] at H
        have c28b0 : ((rd_T58 l0_0 a1).f0) = true := c28
        clear c28
        have HC29 := Aside0.mk H
        clear H
        have hnb30 := NB219_217.out
        have hnc30 := NB217_219.out
        have hcz31_0 : wr.cell? ⟨gb219, 0, none⟩ = some (.bool ((rd_T58 l0_0 a1).f0)) := (blk_cell BK219.out 0).trans rfl
        have hcz31_1 : wr.cell? ⟨gb219, 1, none⟩ = some (.slice A218_1 ((rd_T58 l0_0 a1).f1).length c218_1) := (blk_cell BK219.out 1).trans rfl
        have hcz31_2 : wr.cell? ⟨gb219, 2, none⟩ = some (.slice A218_2 ((rd_T58 l0_0 a1).f2).length c218_2) := (blk_cell BK219.out 2).trans rfl
        have hcz31_3 : wr.cell? ⟨gb219, 3, none⟩ = some (.slice A218_3 ((rd_T58 l0_0 a1).f3).length c218_3) := (blk_cell BK219.out 3).trans rfl
        have hfz31_0 := blk_frozen BK219.out 0
        have hfz31_1 := blk_frozen BK219.out 1
        have hfz31_2 := blk_frozen BK219.out 2
        have hfz31_3 := blk_frozen BK219.out 3
        go_upto_region 10 with (fail)
        repeat (go_quiet (fail); go_upto_region 10 with (fail))
        go_cut [65] (fun v65 wc => ∃ (kq : Nat) (x65_28 : Bool), v65 = .bool x65_28 ∧ Aside0 (spec_l05Node.j1 kq x65_28 ((rd_T58 l0_0 a1).f0) ((rd_T58 l0_0 a1).f1) ((rd_T58 l0_0 a1).f2) ((rd_T58 l0_0 a1).f3) = some r) ∧ Aside0 (kq ≤ k1) ∧ Aside0 (wc.heap[gb217]? = some (.cells #[(.slice (some ad218) l0_0.length c0_0)] 31 (0, 0))) ∧ Aside0 (wc.heap[gb219]? = some (.cells #[.bool ((rd_T58 l0_0 a1).f0), (.slice A218_1 ((rd_T58 l0_0 a1).f1).length c218_1), (.slice A218_2 ((rd_T58 l0_0 a1).f2).length c218_2), (.slice A218_3 ((rd_T58 l0_0 a1).f3).length c218_3)] 58 (0, 0))) ∧ Aside0 (Below w.heap.size w wc))
        case first =>
         have H := HC29.out
         clear HC29
         by_cases c32 : (((rd_T58 l0_0 a1).f2).length : Int) = (((rd_T58 l0_0 a1).f1).length : Int)
         ·
          rw [if_pos c32] at H
          have c32b0 : ((((rd_T58 l0_0 a1).f2).length : Int) == (((rd_T58 l0_0 a1).f1).length : Int)) = true := beq_iff_eq.mpr c32
          have c32b1 : ((((rd_T58 l0_0 a1).f2).length : Int) != (((rd_T58 l0_0 a1).f1).length : Int)) = false := bne_eq_false_iff_eq.mpr c32
          have c32b2 : (((rd_T58 l0_0 a1).f2).length == ((rd_T58 l0_0 a1).f1).length) = true := by first | simpa using c32 | (simp at c32 ⊢; omega)
          clear c32
          (first | rw [c32b0] | (simp only [i64_w, i32_w]; rw [c32b0]) | skip)
          have H' := Aside0.mk H
          clear H
          have hnb33 := NB219_217.out
          have hnc33 := NB217_219.out
          have hcz34_0 : wr.cell? ⟨gb219, 0, none⟩ = some (.bool ((rd_T58 l0_0 a1).f0)) := (blk_cell BK219.out 0).trans rfl
          have hcz34_1 : wr.cell? ⟨gb219, 1, none⟩ = some (.slice A218_1 ((rd_T58 l0_0 a1).f1).length c218_1) := (blk_cell BK219.out 1).trans rfl
          have hcz34_2 : wr.cell? ⟨gb219, 2, none⟩ = some (.slice A218_2 ((rd_T58 l0_0 a1).f2).length c218_2) := (blk_cell BK219.out 2).trans rfl
          have hcz34_3 : wr.cell? ⟨gb219, 3, none⟩ = some (.slice A218_3 ((rd_T58 l0_0 a1).f3).length c218_3) := (blk_cell BK219.out 3).trans rfl
          have hfz34_0 := blk_frozen BK219.out 0
          have hfz34_1 := blk_frozen BK219.out 1
          have hfz34_2 := blk_frozen BK219.out 2
          have hfz34_3 := blk_frozen BK219.out 3
          go_wp2
          repeat (go_quiet (fail); try go_wp2)
          go_meet
          case rel => exact ⟨_, (((((rd_T58 l0_0 a1).f3).length : Int) != 0)), (by first | rfl | (simp; done) | (simp [*]; done)), H', ⟨by have := HK1.out; first | omega | exact Nat.le_refl _⟩, ⟨by (with_reducible repeat (first | refine blk_drewN ?_ _ | refine blk_drew ?_ | refine blk_alloc ?_ _)); exact BK217.out⟩, ⟨by (with_reducible repeat (first | refine blk_drewN ?_ _ | refine blk_drew ?_ | refine blk_alloc ?_ _)); exact BK219.out⟩, ⟨by repeat (first | (with_reducible first | exact HB.out | apply below_alloc | apply pw_below_drewN | apply below_drew1 | refine below_set ?_ GE217.out | refine below_set ?_ GE219.out) | exact HB.out)⟩⟩
         ·
          rw [if_neg c32] at H
          have c32b0 : ((((rd_T58 l0_0 a1).f2).length : Int) == (((rd_T58 l0_0 a1).f1).length : Int)) = false := beq_eq_false_iff_ne.mpr c32
          have c32b1 : ((((rd_T58 l0_0 a1).f2).length : Int) != (((rd_T58 l0_0 a1).f1).length : Int)) = true := bne_iff_ne.mpr c32
          have c32b2 : (((rd_T58 l0_0 a1).f2).length == ((rd_T58 l0_0 a1).f1).length) = false := by first | simpa using c32 | (simp at c32 ⊢; omega)
          (first | rw [c32b0] | (simp only [i64_w, i32_w]; rw [c32b0]) | skip)
          have H' := Aside0.mk H
          clear H
          have hnb35 := NB219_217.out
          have hnc35 := NB217_219.out
          have hcz36_0 : wr.cell? ⟨gb219, 0, none⟩ = some (.bool ((rd_T58 l0_0 a1).f0)) := (blk_cell BK219.out 0).trans rfl
          have hcz36_1 : wr.cell? ⟨gb219, 1, none⟩ = some (.slice A218_1 ((rd_T58 l0_0 a1).f1).length c218_1) := (blk_cell BK219.out 1).trans rfl
          have hcz36_2 : wr.cell? ⟨gb219, 2, none⟩ = some (.slice A218_2 ((rd_T58 l0_0 a1).f2).length c218_2) := (blk_cell BK219.out 2).trans rfl
          have hcz36_3 : wr.cell? ⟨gb219, 3, none⟩ = some (.slice A218_3 ((rd_T58 l0_0 a1).f3).length c218_3) := (blk_cell BK219.out 3).trans rfl
          have hfz36_0 := blk_frozen BK219.out 0
          have hfz36_1 := blk_frozen BK219.out 1
          have hfz36_2 := blk_frozen BK219.out 2
          have hfz36_3 := blk_frozen BK219.out 3
          go_wp2
          repeat (go_quiet (fail); try go_wp2)
          go_meet
          case rel => exact ⟨_, (true), (by first | rfl | (simp; done) | (simp [*]; done)), H', ⟨by have := HK1.out; first | omega | exact Nat.le_refl _⟩, ⟨by (with_reducible repeat (first | refine blk_drewN ?_ _ | refine blk_drew ?_ | refine blk_alloc ?_ _)); exact BK217.out⟩, ⟨by (with_reducible repeat (first | refine blk_drewN ?_ _ | refine blk_drew ?_ | refine blk_alloc ?_ _)); exact BK219.out⟩, ⟨by repeat (first | (with_reducible first | exact HB.out | apply below_alloc | apply pw_below_drewN | apply below_drew1 | refine below_set ?_ GE217.out | refine below_set ?_ GE219.out) | exact HB.out)⟩⟩
        case rest =>
         clear HC29
         (try clear c1); (try clear c2); (try clear p2); (try clear q2); (try clear hx2); (try clear c3); (try clear c3b0); (try clear c4); (try clear c4b0); (try clear c6); (try clear p6); (try clear c10); (try clear c12); (try clear c12b0); (try clear c13); (try clear c13b0); (try clear c14); (try clear c14b0); (try clear c14b1); (try clear c15); (try clear c17); (try clear c17b0); (try clear c19); (try clear c19b0); (try clear c20); (try clear c20b0); (try clear c21); (try clear c21b0); (try clear p21); (try clear q21); (try clear hx21); (try clear c22); (try clear p22); (try clear q22); (try clear hx22); (try clear c24); (try clear c26); (try clear c28); (try clear c28b0); (try clear c30); (try clear c32); (try clear c32b0); (try clear c32b1); (try clear c32b2); (try clear c33); (try clear c35); (try clear hcz11_0); (try clear hcz11_1); (try clear hcz11_2); (try clear hcz11_3); (try clear hcz16_0); (try clear hcz16_1); (try clear hcz16_2); (try clear hcz16_3); (try clear hcz23_0); (try clear hcz23_1); (try clear hcz23_2); (try clear hcz23_3); (try clear hcz25_0); (try clear hcz25_1)
         (try clear hcz25_2); (try clear hcz25_3); (try clear hcz27_0); (try clear hcz27_1); (try clear hcz27_2); (try clear hcz27_3); (try clear hcz31_0); (try clear hcz31_1); (try clear hcz31_2); (try clear hcz31_3); (try clear hcz34_0); (try clear hcz34_1); (try clear hcz34_2); (try clear hcz34_3); (try clear hcz36_0); (try clear hcz36_1); (try clear hcz36_2); (try clear hcz36_3); (try clear hcz8_0); (try clear hfz11_0); (try clear hfz11_1); (try clear hfz11_2); (try clear hfz11_3); (try clear hfz16_0); (try clear hfz16_1); (try clear hfz16_2); (try clear hfz16_3); (try clear hfz23_0); (try clear hfz23_1); (try clear hfz23_2); (try clear hfz23_3); (try clear hfz25_0); (try clear hfz25_1); (try clear hfz25_2); (try clear hfz25_3); (try clear hfz27_0); (try clear hfz27_1); (try clear hfz27_2); (try clear hfz27_3); (try clear hfz31_0); (try clear hfz31_1); (try clear hfz31_2); (try clear hfz31_3); (try clear hfz34_0); (try clear hfz34_1); (try clear hfz34_2); (try clear hfz34_3); (try clear hfz36_0); (try clear hfz36_1); (try clear hfz36_2); (try clear hfz36_3); (try clear hfz8_0); (try clear hx218_0); (try clear hx218_1); (try clear hx218_2); (try clear hx218_3); (try clear hx221_0); (try clear hx222_0); (try clear hx223_0); (try clear p2)
         (try clear p218); (try clear p221); (try clear p222); (try clear p223); (try clear q2); (try clear q218); (try clear q221); (try clear q222); (try clear q223)
         obtain ⟨kq, x65_28, rfl, HA, HJ28, BK217, BK219, HB⟩ := hcut
         cases kq with
         | zero => exact absurd HA.out (by simp [spec_l05Node.j1])
         | succ kj28 =>
          have H := HA.out
          clear HA
          simp only [spec_l05Node.j1] at H
          by_cases c37 : x65_28 = true
          ·
           subst c37
           have H1 : (some false) = some r := by rw [if_pos rfl] at H; exact H
           clear H
           have H := H1
           clear H1
           obtain rfl := Option.some.inj H
           go_wp2
           repeat (go_quiet (fail); try go_wp2)
           go_ret
           exact ⟨by first | rfl | (simp [errW_none, errW_some] <;> rfl) | (simp [*, errW_none, errW_some] <;> rfl), by repeat (first | (with_reducible first | exact HB.out | apply below_alloc | apply pw_below_drewN | apply below_drew1 | refine below_set ?_ GE217.out | refine below_set ?_ GE219.out) | exact HB.out)⟩
          ·
           replace c37 := Bool.eq_false_iff.mpr c37
           subst c37
           have H1 : (spec_l05Node.l1 kj28 0 ((rd_T58 l0_0 a1).f0) ((rd_T58 l0_0 a1).f1) ((rd_T58 l0_0 a1).f2) ((rd_T58 l0_0 a1).f3)) = some r := by rw [if_neg (show ¬ (false = true) by decide)] at H; exact H
           clear H
           have H := H1
           clear H1
           have H' := Aside0.mk H
           clear H
           go_wp2
           repeat (go_quiet (fail); try go_wp2)
           go_loopg [7] kj28 (fun kq v7 w' => ∃ (x7_3 : Int), v7 = .int .i64 x7_3 ∧ Aside0 (spec_l05Node.l1 kq x7_3 ((rd_T58 l0_0 a1).f0) ((rd_T58 l0_0 a1).f1) ((rd_T58 l0_0 a1).f2) ((rd_T58 l0_0 a1).f3) = some r) ∧ Aside0 (kq ≤ kj28) ∧ Aside0 (w'.heap[gb217]? = some (.cells #[(.slice (some ad218) l0_0.length c0_0)] 31 (0, 0))) ∧ Aside0 (w'.heap[gb219]? = some (.cells #[.bool ((rd_T58 l0_0 a1).f0), (.slice A218_1 ((rd_T58 l0_0 a1).f1).length c218_1), (.slice A218_2 ((rd_T58 l0_0 a1).f2).length c218_2), (.slice A218_3 ((rd_T58 l0_0 a1).f3).length c218_3)] 58 (0, 0))) ∧ Aside0 (Below w.heap.size w w'))
           case atStart => exact ⟨(0), (by first | rfl | (simp; done) | (simp [*]; done)), H', ⟨Nat.le_refl _⟩, ⟨by (with_reducible repeat (first | refine blk_drewN ?_ _ | refine blk_drew ?_ | refine blk_alloc ?_ _)); exact BK217.out⟩, ⟨by (with_reducible repeat (first | refine blk_drewN ?_ _ | refine blk_drew ?_ | refine blk_alloc ?_ _)); exact BK219.out⟩, ⟨by repeat (first | (with_reducible first | exact HB.out | apply below_alloc | apply pw_below_drewN | apply below_drew1 | refine below_set ?_ GE217.out | refine below_set ?_ GE219.out) | exact HB.out)⟩⟩
           case round =>
            clear H'
            (try clear c1); (try clear c2); (try clear p2); (try clear q2); (try clear hx2); (try clear c3); (try clear c3b0); (try clear c4); (try clear c4b0); (try clear c6); (try clear p6); (try clear c10); (try clear c12); (try clear c12b0); (try clear c13); (try clear c13b0); (try clear c14); (try clear c14b0); (try clear c14b1); (try clear c15); (try clear c17); (try clear c17b0); (try clear c19); (try clear c19b0); (try clear c20); (try clear c20b0); (try clear c21); (try clear c21b0); (try clear p21); (try clear q21); (try clear hx21); (try clear c22); (try clear p22); (try clear q22); (try clear hx22); (try clear c24); (try clear c26); (try clear c28); (try clear c28b0); (try clear c30); (try clear c32); (try clear c32b0); (try clear c32b1); (try clear c32b2); (try clear c33); (try clear c35); (try clear c37); (try clear hcz11_0); (try clear hcz11_1); (try clear hcz11_2); (try clear hcz11_3); (try clear hcz16_0); (try clear hcz16_1); (try clear hcz16_2); (try clear hcz16_3); (try clear hcz23_0); (try clear hcz23_1); (try clear hcz23_2); (try clear hcz23_3); (try clear hcz25_0)
            (try clear hcz25_1); (try clear hcz25_2); (try clear hcz25_3); (try clear hcz27_0); (try clear hcz27_1); (try clear hcz27_2); (try clear hcz27_3); (try clear hcz31_0); (try clear hcz31_1); (try clear hcz31_2); (try clear hcz31_3); (try clear hcz34_0); (try clear hcz34_1); (try clear hcz34_2); (try clear hcz34_3); (try clear hcz36_0); (try clear hcz36_1); (try clear hcz36_2); (try clear hcz36_3); (try clear hcz8_0); (try clear hfz11_0); (try clear hfz11_1); (try clear hfz11_2); (try clear hfz11_3); (try clear hfz16_0); (try clear hfz16_1); (try clear hfz16_2); (try clear hfz16_3); (try clear hfz23_0); (try clear hfz23_1); (try clear hfz23_2); (try clear hfz23_3); (try clear hfz25_0); (try clear hfz25_1); (try clear hfz25_2); (try clear hfz25_3); (try clear hfz27_0); (try clear hfz27_1); (try clear hfz27_2); (try clear hfz27_3); (try clear hfz31_0); (try clear hfz31_1); (try clear hfz31_2); (try clear hfz31_3); (try clear hfz34_0); (try clear hfz34_1); (try clear hfz34_2); (try clear hfz34_3); (try clear hfz36_0); (try clear hfz36_1); (try clear hfz36_2); (try clear hfz36_3); (try clear hfz8_0); (try clear hx218_0); (try clear hx218_1); (try clear hx218_2); (try clear hx218_3); (try clear hx221_0); (try clear hx222_0); (try clear hx223_0)
            (try clear p2); (try clear p21); (try clear p218); (try clear p22); (try clear p221); (try clear p222); (try clear p223); (try clear p6); (try clear q2); (try clear q21); (try clear q218); (try clear q22); (try clear q221); (try clear q222); (try clear q223)
            obtain ⟨x7_3, rfl, HA, HK3, BK217, BK219, HB⟩ := hrel
            cases gk with
            | zero => exact absurd HA.out (by simp [spec_l05Node.l1])
            | succ k3 =>
             have H := HA.out
             clear HA
             simp only [spec_l05Node.l1] at H
             by_cases c38 : x7_3 < (((rd_T58 l0_0 a1).f2).length : Int)
             ·
              rw [if_pos c38] at H
              have c38b0 : decide (x7_3 < (((rd_T58 l0_0 a1).f2).length : Int)) = true := decide_eq_true c38
              clear c38
              by_cases c39 : 0 ≤ x7_3
              ·
               rw [if_pos c39] at H
               have c39b0 : decide (0 ≤ x7_3) = true := decide_eq_true c39
               clear c39
               by_cases c40 : ((rdOf ByteArray.empty ((rd_T58 l0_0 a1).f2) x7_3).size : Int) > 200
               ·
                rw [if_pos c40] at H
                have c40b0 : decide (200 < ((rdOf ByteArray.empty ((rd_T58 l0_0 a1).f2) x7_3).size : Int)) = true := decide_eq_true c40
                have c40b1 : decide (200 < (rdOf ByteArray.empty ((rd_T58 l0_0 a1).f2) x7_3).size) = true := decide_eq_true (by omega)
                clear c40
                obtain rfl := Option.some.inj H
                have hnb41 := NB219_217.out
                have hnc41 := NB217_219.out
                have hcz42_0 : wr.cell? ⟨gb219, 0, none⟩ = some (.bool ((rd_T58 l0_0 a1).f0)) := (blk_cell BK219.out 0).trans rfl
                have hcz42_1 : wr.cell? ⟨gb219, 1, none⟩ = some (.slice A218_1 ((rd_T58 l0_0 a1).f1).length c218_1) := (blk_cell BK219.out 1).trans rfl
                have hcz42_2 : wr.cell? ⟨gb219, 2, none⟩ = some (.slice A218_2 ((rd_T58 l0_0 a1).f2).length c218_2) := (blk_cell BK219.out 2).trans rfl
                have hcz42_3 : wr.cell? ⟨gb219, 3, none⟩ = some (.slice A218_3 ((rd_T58 l0_0 a1).f3).length c218_3) := (blk_cell BK219.out 3).trans rfl
                have hfz42_0 := blk_frozen BK219.out 0
                have hfz42_1 := blk_frozen BK219.out 1
                have hfz42_2 := blk_frozen BK219.out 2
                have hfz42_3 := blk_frozen BK219.out 3
                have p224 : 0 ≤ (x7_3 : Int) := of_decide_eq_true (by with_reducible assumption)
                have q224 : x7_3 < (((rd_T58 l0_0 a1).f2).length : Int) := of_decide_eq_true (by with_reducible assumption)
                obtain ⟨ad224, e224, hx224_0⟩ := Kd.at_string HR218_2.out x7_3 p224 q224
                cases e224
                replace hx224_0 := (HB.out.cell (World.block_lt_of_cell? w _ hx224_0)).trans hx224_0
                replace p224 := eq_true p224
                replace q224 := eq_true q224
                go_wp2
                repeat (go_quiet (fail); try go_wp2)
                go_ret
                exact ⟨by first | rfl | (simp [errW_none, errW_some] <;> rfl) | (simp [*, errW_none, errW_some] <;> rfl), by repeat (first | (with_reducible first | exact HB.out | apply below_alloc | apply pw_below_drewN | apply below_drew1 | refine below_set ?_ GE217.out | refine below_set ?_ GE219.out) | exact HB.out)⟩
               ·
                rw [if_neg c40] at H
                have c40b0 : decide (200 < ((rdOf ByteArray.empty ((rd_T58 l0_0 a1).f2) x7_3).size : Int)) = false := decide_eq_false c40
                have c40b1 : decide (200 < (rdOf ByteArray.empty ((rd_T58 l0_0 a1).f2) x7_3).size) = false := decide_eq_false (by omega)
                clear c40
                have H' := Aside0.mk H
                clear H
                have hnb43 := NB219_217.out
                have hnc43 := NB217_219.out
                have hcz44_0 : wr.cell? ⟨gb219, 0, none⟩ = some (.bool ((rd_T58 l0_0 a1).f0)) := (blk_cell BK219.out 0).trans rfl
                have hcz44_1 : wr.cell? ⟨gb219, 1, none⟩ = some (.slice A218_1 ((rd_T58 l0_0 a1).f1).length c218_1) := (blk_cell BK219.out 1).trans rfl
                have hcz44_2 : wr.cell? ⟨gb219, 2, none⟩ = some (.slice A218_2 ((rd_T58 l0_0 a1).f2).length c218_2) := (blk_cell BK219.out 2).trans rfl
                have hcz44_3 : wr.cell? ⟨gb219, 3, none⟩ = some (.slice A218_3 ((rd_T58 l0_0 a1).f3).length c218_3) := (blk_cell BK219.out 3).trans rfl
                have hfz44_0 := blk_frozen BK219.out 0
                have hfz44_1 := blk_frozen BK219.out 1
                have hfz44_2 := blk_frozen BK219.out 2
                have hfz44_3 := blk_frozen BK219.out 3
                have p224 : 0 ≤ (x7_3 : Int) := of_decide_eq_true (by with_reducible assumption)
                have q224 : x7_3 < (((rd_T58 l0_0 a1).f2).length : Int) := of_decide_eq_true (by with_reducible assumption)
                obtain ⟨ad224, e224, hx224_0⟩ := Kd.at_string HR218_2.out x7_3 p224 q224
                cases e224
                replace hx224_0 := (HB.out.cell (World.block_lt_of_cell? w _ hx224_0)).trans hx224_0
                replace p224 := eq_true p224
                replace q224 := eq_true q224
                go_wp2
                repeat (go_quiet (fail); try go_wp2)
                go_roundg k3
                case measure => have := HK1.out; have := HJ28.out; have := HK3.out; omega
                case rel => exact ⟨(wrap64 (x7_3 + 1)), (by first | rfl | (simp; done) | (simp [*]; done)), H', ⟨by have := HK1.out; have := HJ28.out; have := HK3.out; omega⟩, ⟨by (with_reducible repeat (first | refine blk_drewN ?_ _ | refine blk_drew ?_ | refine blk_alloc ?_ _)); exact BK217.out⟩, ⟨by (with_reducible repeat (first | refine blk_drewN ?_ _ | refine blk_drew ?_ | refine blk_alloc ?_ _)); exact BK219.out⟩, ⟨by repeat (first | (with_reducible first | exact HB.out | apply below_alloc | apply pw_below_drewN | apply below_drew1 | refine below_set ?_ GE217.out | refine below_set ?_ GE219.out) | exact HB.out)⟩⟩
              ·
               rw [if_neg c39] at H
               exact absurd H (by simp)
             ·
              rw [if_neg c38] at H
              have c38b0 : decide (x7_3 < (((rd_T58 l0_0 a1).f2).length : Int)) = false := decide_eq_false c38
              clear c38
              obtain rfl := Option.some.inj H
              have hnb45 := NB219_217.out
              have hnc45 := NB217_219.out
              have hcz46_0 : wr.cell? ⟨gb219, 0, none⟩ = some (.bool ((rd_T58 l0_0 a1).f0)) := (blk_cell BK219.out 0).trans rfl
              have hcz46_1 : wr.cell? ⟨gb219, 1, none⟩ = some (.slice A218_1 ((rd_T58 l0_0 a1).f1).length c218_1) := (blk_cell BK219.out 1).trans rfl
              have hcz46_2 : wr.cell? ⟨gb219, 2, none⟩ = some (.slice A218_2 ((rd_T58 l0_0 a1).f2).length c218_2) := (blk_cell BK219.out 2).trans rfl
              have hcz46_3 : wr.cell? ⟨gb219, 3, none⟩ = some (.slice A218_3 ((rd_T58 l0_0 a1).f3).length c218_3) := (blk_cell BK219.out 3).trans rfl
              have hfz46_0 := blk_frozen BK219.out 0
              have hfz46_1 := blk_frozen BK219.out 1
              have hfz46_2 := blk_frozen BK219.out 2
              have hfz46_3 := blk_frozen BK219.out 3
              go_wp2
              repeat (go_quiet (fail); try go_wp2)
              go_ret
              exact ⟨by first | rfl | (simp [errW_none, errW_some] <;> rfl) | (simp [*, errW_none, errW_some] <;> rfl), by repeat (first | (with_reducible first | exact HB.out | apply below_alloc | apply pw_below_drewN | apply below_drew1 | refine below_set ?_ GE217.out | refine below_set ?_ GE219.out) | exact HB.out)⟩
       ·
        rw [if_neg c28] at H
        have c28b0 : ((rd_T58 l0_0 a1).f0) = false := by simpa using c28
        clear c28
        have HC47 := Aside0.mk H
        clear H
        have hnb48 := NB219_217.out
        have hnc48 := NB217_219.out
        have hcz49_0 : wr.cell? ⟨gb219, 0, none⟩ = some (.bool ((rd_T58 l0_0 a1).f0)) := (blk_cell BK219.out 0).trans rfl
        have hcz49_1 : wr.cell? ⟨gb219, 1, none⟩ = some (.slice A218_1 ((rd_T58 l0_0 a1).f1).length c218_1) := (blk_cell BK219.out 1).trans rfl
        have hcz49_2 : wr.cell? ⟨gb219, 2, none⟩ = some (.slice A218_2 ((rd_T58 l0_0 a1).f2).length c218_2) := (blk_cell BK219.out 2).trans rfl
        have hcz49_3 : wr.cell? ⟨gb219, 3, none⟩ = some (.slice A218_3 ((rd_T58 l0_0 a1).f3).length c218_3) := (blk_cell BK219.out 3).trans rfl
        have hfz49_0 := blk_frozen BK219.out 0
        have hfz49_1 := blk_frozen BK219.out 1
        have hfz49_2 := blk_frozen BK219.out 2
        have hfz49_3 := blk_frozen BK219.out 3
        go_upto_region 18 with (fail)
        repeat (go_quiet (fail); go_upto_region 18 with (fail))
        go_cut [93] (fun v93 wc => ∃ (kq : Nat) (x93_46 : Bool), v93 = .bool x93_46 ∧ Aside0 (spec_l05Node.j3 kq a1 x93_46 ((rd_T58 l0_0 a1).f0) ((rd_T58 l0_0 a1).f1) ((rd_T58 l0_0 a1).f2) ((rd_T58 l0_0 a1).f3) = some r) ∧ Aside0 (kq ≤ k1) ∧ Aside0 (wc.heap[gb217]? = some (.cells #[(.slice (some ad218) l0_0.length c0_0)] 31 (0, 0))) ∧ Aside0 (wc.heap[gb219]? = some (.cells #[.bool ((rd_T58 l0_0 a1).f0), (.slice A218_1 ((rd_T58 l0_0 a1).f1).length c218_1), (.slice A218_2 ((rd_T58 l0_0 a1).f2).length c218_2), (.slice A218_3 ((rd_T58 l0_0 a1).f3).length c218_3)] 58 (0, 0))) ∧ Aside0 (Below w.heap.size w wc))
        case first =>
         have H := HC47.out
         clear HC47
         by_cases c50 : (((rd_T58 l0_0 a1).f2).length : Int) = 0
         ·
          rw [if_pos c50] at H
          have c50b0 : ((((rd_T58 l0_0 a1).f2).length : Int) == 0) = true := beq_iff_eq.mpr c50
          have c50b1 : ((((rd_T58 l0_0 a1).f2).length : Int) != 0) = false := bne_eq_false_iff_eq.mpr c50
          clear c50
          (first | rw [c50b0] | (simp only [i64_w, i32_w]; rw [c50b0]) | skip)
          have H' := Aside0.mk H
          clear H
          have hnb51 := NB219_217.out
          have hnc51 := NB217_219.out
          have hcz52_0 : wr.cell? ⟨gb219, 0, none⟩ = some (.bool ((rd_T58 l0_0 a1).f0)) := (blk_cell BK219.out 0).trans rfl
          have hcz52_1 : wr.cell? ⟨gb219, 1, none⟩ = some (.slice A218_1 ((rd_T58 l0_0 a1).f1).length c218_1) := (blk_cell BK219.out 1).trans rfl
          have hcz52_2 : wr.cell? ⟨gb219, 2, none⟩ = some (.slice A218_2 ((rd_T58 l0_0 a1).f2).length c218_2) := (blk_cell BK219.out 2).trans rfl
          have hcz52_3 : wr.cell? ⟨gb219, 3, none⟩ = some (.slice A218_3 ((rd_T58 l0_0 a1).f3).length c218_3) := (blk_cell BK219.out 3).trans rfl
          have hfz52_0 := blk_frozen BK219.out 0
          have hfz52_1 := blk_frozen BK219.out 1
          have hfz52_2 := blk_frozen BK219.out 2
          have hfz52_3 := blk_frozen BK219.out 3
          go_wp2
          repeat (go_quiet (fail); try go_wp2)
          go_meet
          case rel => exact ⟨_, (((((rd_T58 l0_0 a1).f3).length : Int) != (wrap64 ((((rd_T58 l0_0 a1).f1).length : Int) + 1)))), (by first | rfl | (simp; done) | (simp [*]; done)), H', ⟨by have := HK1.out; first | omega | exact Nat.le_refl _⟩, ⟨by (with_reducible repeat (first | refine blk_drewN ?_ _ | refine blk_drew ?_ | refine blk_alloc ?_ _)); exact BK217.out⟩, ⟨by (with_reducible repeat (first | refine blk_drewN ?_ _ | refine blk_drew ?_ | refine blk_alloc ?_ _)); exact BK219.out⟩, ⟨by repeat (first | (with_reducible first | exact HB.out | apply below_alloc | apply pw_below_drewN | apply below_drew1 | refine below_set ?_ GE217.out | refine below_set ?_ GE219.out) | exact HB.out)⟩⟩
         ·
          rw [if_neg c50] at H
          have c50b0 : ((((rd_T58 l0_0 a1).f2).length : Int) == 0) = false := beq_eq_false_iff_ne.mpr c50
          have c50b1 : ((((rd_T58 l0_0 a1).f2).length : Int) != 0) = true := bne_iff_ne.mpr c50
          have c50b2 : ¬ (((rd_T58 l0_0 a1).f2) = []) := fun h_ => c50 (by rw [h_]; rfl)
          (first | rw [c50b0] | (simp only [i64_w, i32_w]; rw [c50b0]) | skip)
          have H' := Aside0.mk H
          clear H
          have hnb53 := NB219_217.out
          have hnc53 := NB217_219.out
          have hcz54_0 : wr.cell? ⟨gb219, 0, none⟩ = some (.bool ((rd_T58 l0_0 a1).f0)) := (blk_cell BK219.out 0).trans rfl
          have hcz54_1 : wr.cell? ⟨gb219, 1, none⟩ = some (.slice A218_1 ((rd_T58 l0_0 a1).f1).length c218_1) := (blk_cell BK219.out 1).trans rfl
          have hcz54_2 : wr.cell? ⟨gb219, 2, none⟩ = some (.slice A218_2 ((rd_T58 l0_0 a1).f2).length c218_2) := (blk_cell BK219.out 2).trans rfl
          have hcz54_3 : wr.cell? ⟨gb219, 3, none⟩ = some (.slice A218_3 ((rd_T58 l0_0 a1).f3).length c218_3) := (blk_cell BK219.out 3).trans rfl
          have hfz54_0 := blk_frozen BK219.out 0
          have hfz54_1 := blk_frozen BK219.out 1
          have hfz54_2 := blk_frozen BK219.out 2
          have hfz54_3 := blk_frozen BK219.out 3
          go_wp2
          repeat (go_quiet (fail); try go_wp2)
          go_meet
          case rel => exact ⟨_, (true), (by first | rfl | (simp; done) | (simp [*]; done)), H', ⟨by have := HK1.out; first | omega | exact Nat.le_refl _⟩, ⟨by (with_reducible repeat (first | refine blk_drewN ?_ _ | refine blk_drew ?_ | refine blk_alloc ?_ _)); exact BK217.out⟩, ⟨by (with_reducible repeat (first | refine blk_drewN ?_ _ | refine blk_drew ?_ | refine blk_alloc ?_ _)); exact BK219.out⟩, ⟨by repeat (first | (with_reducible first | exact HB.out | apply below_alloc | apply pw_below_drewN | apply below_drew1 | refine below_set ?_ GE217.out | refine below_set ?_ GE219.out) | exact HB.out)⟩⟩
        case rest =>
         clear HC47
         (try clear c1); (try clear c2); (try clear p2); (try clear q2); (try clear hx2); (try clear c3); (try clear c3b0); (try clear c4); (try clear c4b0); (try clear c5); (try clear c6); (try clear p6); (try clear c10); (try clear c12); (try clear c12b0); (try clear c13); (try clear c13b0); (try clear c14); (try clear c14b0); (try clear c14b1); (try clear c15); (try clear c17); (try clear c17b0); (try clear c19); (try clear c19b0); (try clear c20); (try clear c20b0); (try clear c21); (try clear c21b0); (try clear p21); (try clear q21); (try clear hx21); (try clear c22); (try clear p22); (try clear q22); (try clear hx22); (try clear c24); (try clear c26); (try clear c28); (try clear c28b0); (try clear c30); (try clear c32); (try clear c32b0); (try clear c32b1); (try clear c32b2); (try clear c33); (try clear c35); (try clear c37); (try clear c38); (try clear c38b0); (try clear c39); (try clear c39b0); (try clear c40); (try clear c40b0); (try clear c40b1); (try clear c41); (try clear c43); (try clear c45); (try clear c48); (try clear c50)
         (try clear c50b0); (try clear c50b1); (try clear c50b2); (try clear c51); (try clear c53); (try clear hcz11_0); (try clear hcz11_1); (try clear hcz11_2); (try clear hcz11_3); (try clear hcz16_0); (try clear hcz16_1); (try clear hcz16_2); (try clear hcz16_3); (try clear hcz23_0); (try clear hcz23_1); (try clear hcz23_2); (try clear hcz23_3); (try clear hcz25_0); (try clear hcz25_1); (try clear hcz25_2); (try clear hcz25_3); (try clear hcz27_0); (try clear hcz27_1); (try clear hcz27_2); (try clear hcz27_3); (try clear hcz31_0); (try clear hcz31_1); (try clear hcz31_2); (try clear hcz31_3); (try clear hcz34_0); (try clear hcz34_1); (try clear hcz34_2); (try clear hcz34_3); (try clear hcz36_0); (try clear hcz36_1); (try clear hcz36_2); (try clear hcz36_3); (try clear hcz42_0); (try clear hcz42_1); (try clear hcz42_2); (try clear hcz42_3); (try clear hcz44_0); (try clear hcz44_1); (try clear hcz44_2); (try clear hcz44_3); (try clear hcz46_0); (try clear hcz46_1); (try clear hcz46_2); (try clear hcz46_3); (try clear hcz49_0); (try clear hcz49_1); (try clear hcz49_2); (try clear hcz49_3); (try clear hcz52_0); (try clear hcz52_1); (try clear hcz52_2); (try clear hcz52_3); (try clear hcz54_0); (try clear hcz54_1); (try clear hcz54_2)
         (try clear hcz54_3); (try clear hcz8_0); (try clear hfz11_0); (try clear hfz11_1); (try clear hfz11_2); (try clear hfz11_3); (try clear hfz16_0); (try clear hfz16_1); (try clear hfz16_2); (try clear hfz16_3); (try clear hfz23_0); (try clear hfz23_1); (try clear hfz23_2); (try clear hfz23_3); (try clear hfz25_0); (try clear hfz25_1); (try clear hfz25_2); (try clear hfz25_3); (try clear hfz27_0); (try clear hfz27_1); (try clear hfz27_2); (try clear hfz27_3); (try clear hfz31_0); (try clear hfz31_1); (try clear hfz31_2); (try clear hfz31_3); (try clear hfz34_0); (try clear hfz34_1); (try clear hfz34_2); (try clear hfz34_3); (try clear hfz36_0); (try clear hfz36_1); (try clear hfz36_2); (try clear hfz36_3); (try clear hfz42_0); (try clear hfz42_1); (try clear hfz42_2); (try clear hfz42_3); (try clear hfz44_0); (try clear hfz44_1); (try clear hfz44_2); (try clear hfz44_3); (try clear hfz46_0); (try clear hfz46_1); (try clear hfz46_2); (try clear hfz46_3); (try clear hfz49_0); (try clear hfz49_1); (try clear hfz49_2); (try clear hfz49_3); (try clear hfz52_0); (try clear hfz52_1); (try clear hfz52_2); (try clear hfz52_3); (try clear hfz54_0); (try clear hfz54_1); (try clear hfz54_2); (try clear hfz54_3); (try clear hfz8_0); (try clear hx218_0)
         (try clear hx218_1); (try clear hx218_2); (try clear hx218_3); (try clear hx221_0); (try clear hx222_0); (try clear hx223_0); (try clear hx224_0); (try clear p2); (try clear p21); (try clear p218); (try clear p22); (try clear p221); (try clear p222); (try clear p223); (try clear p224); (try clear p6); (try clear q2); (try clear q21); (try clear q218); (try clear q22); (try clear q221); (try clear q222); (try clear q223); (try clear q224)
         obtain ⟨kq, x93_46, rfl, HA, HJ46, BK217, BK219, HB⟩ := hcut
         cases kq with
         | zero => exact absurd HA.out (by simp [spec_l05Node.j3])
         | succ kj46 =>
          have H := HA.out
          clear HA
          simp only [spec_l05Node.j3] at H
          by_cases c55 : x93_46 = true
          ·
           subst c55
           have H1 : (some false) = some r := by rw [if_pos rfl] at H; exact H
           clear H
           have H := H1
           clear H1
           obtain rfl := Option.some.inj H
           go_wp2
           repeat (go_quiet (fail); try go_wp2)
           go_ret
           exact ⟨by first | rfl | (simp [errW_none, errW_some] <;> rfl) | (simp [*, errW_none, errW_some] <;> rfl), by repeat (first | (with_reducible first | exact HB.out | apply below_alloc | apply pw_below_drewN | apply below_drew1 | refine below_set ?_ GE217.out | refine below_set ?_ GE219.out) | exact HB.out)⟩
          ·
           replace c55 := Bool.eq_false_iff.mpr c55
           subst c55
           have H1 : (spec_l05Node.l2 kj46 a1 0 ((rd_T58 l0_0 a1).f0) ((rd_T58 l0_0 a1).f1) ((rd_T58 l0_0 a1).f2) ((rd_T58 l0_0 a1).f3)) = some r := by rw [if_neg (show ¬ (false = true) by decide)] at H; exact H
           clear H
           have H := H1
           clear H1
           have H' := Aside0.mk H
           clear H
           go_wp2
           repeat (go_quiet (fail); try go_wp2)
           go_loopg [8] kj46 (fun kq v8 w' => ∃ (x8_3 : Int), v8 = .int .i64 x8_3 ∧ Aside0 (spec_l05Node.l2 kq a1 x8_3 ((rd_T58 l0_0 a1).f0) ((rd_T58 l0_0 a1).f1) ((rd_T58 l0_0 a1).f2) ((rd_T58 l0_0 a1).f3) = some r) ∧ Aside0 (kq ≤ kj46) ∧ Aside0 (w'.heap[gb217]? = some (.cells #[(.slice (some ad218) l0_0.length c0_0)] 31 (0, 0))) ∧ Aside0 (w'.heap[gb219]? = some (.cells #[.bool ((rd_T58 l0_0 a1).f0), (.slice A218_1 ((rd_T58 l0_0 a1).f1).length c218_1), (.slice A218_2 ((rd_T58 l0_0 a1).f2).length c218_2), (.slice A218_3 ((rd_T58 l0_0 a1).f3).length c218_3)] 58 (0, 0))) ∧ Aside0 (Below w.heap.size w w'))
           case atStart => exact ⟨(0), (by first | rfl | (simp; done) | (simp [*]; done)), H', ⟨Nat.le_refl _⟩, ⟨by (with_reducible repeat (first | refine blk_drewN ?_ _ | refine blk_drew ?_ | refine blk_alloc ?_ _)); exact BK217.out⟩, ⟨by (with_reducible repeat (first | refine blk_drewN ?_ _ | refine blk_drew ?_ | refine blk_alloc ?_ _)); exact BK219.out⟩, ⟨by repeat (first | (with_reducible first | exact HB.out | apply below_alloc | apply pw_below_drewN | apply below_drew1 | refine below_set ?_ GE217.out | refine below_set ?_ GE219.out) | exact HB.out)⟩⟩
           case round =>
            clear H'
            (try clear c1); (try clear c2); (try clear p2); (try clear q2); (try clear hx2); (try clear c3); (try clear c3b0); (try clear c4); (try clear c4b0); (try clear c5); (try clear c6); (try clear p6); (try clear c10); (try clear c12); (try clear c12b0); (try clear c13); (try clear c13b0); (try clear c14); (try clear c14b0); (try clear c14b1); (try clear c15); (try clear c17); (try clear c17b0); (try clear c19); (try clear c19b0); (try clear c20); (try clear c20b0); (try clear c21); (try clear c21b0); (try clear p21); (try clear q21); (try clear hx21); (try clear c22); (try clear p22); (try clear q22); (try clear hx22); (try clear c24); (try clear c26); (try clear c28); (try clear c28b0); (try clear c30); (try clear c32); (try clear c32b0); (try clear c32b1); (try clear c32b2); (try clear c33); (try clear c35); (try clear c37); (try clear c38); (try clear c38b0); (try clear c39); (try clear c39b0); (try clear c40); (try clear c40b0); (try clear c40b1); (try clear c41); (try clear c43); (try clear c45); (try clear c48); (try clear c50)
            (try clear c50b0); (try clear c50b1); (try clear c50b2); (try clear c51); (try clear c53); (try clear c55); (try clear hcz11_0); (try clear hcz11_1); (try clear hcz11_2); (try clear hcz11_3); (try clear hcz16_0); (try clear hcz16_1); (try clear hcz16_2); (try clear hcz16_3); (try clear hcz23_0); (try clear hcz23_1); (try clear hcz23_2); (try clear hcz23_3); (try clear hcz25_0); (try clear hcz25_1); (try clear hcz25_2); (try clear hcz25_3); (try clear hcz27_0); (try clear hcz27_1); (try clear hcz27_2); (try clear hcz27_3); (try clear hcz31_0); (try clear hcz31_1); (try clear hcz31_2); (try clear hcz31_3); (try clear hcz34_0); (try clear hcz34_1); (try clear hcz34_2); (try clear hcz34_3); (try clear hcz36_0); (try clear hcz36_1); (try clear hcz36_2); (try clear hcz36_3); (try clear hcz42_0); (try clear hcz42_1); (try clear hcz42_2); (try clear hcz42_3); (try clear hcz44_0); (try clear hcz44_1); (try clear hcz44_2); (try clear hcz44_3); (try clear hcz46_0); (try clear hcz46_1); (try clear hcz46_2); (try clear hcz46_3); (try clear hcz49_0); (try clear hcz49_1); (try clear hcz49_2); (try clear hcz49_3); (try clear hcz52_0); (try clear hcz52_1); (try clear hcz52_2); (try clear hcz52_3); (try clear hcz54_0); (try clear hcz54_1)
            (try clear hcz54_2); (try clear hcz54_3); (try clear hcz8_0); (try clear hfz11_0); (try clear hfz11_1); (try clear hfz11_2); (try clear hfz11_3); (try clear hfz16_0); (try clear hfz16_1); (try clear hfz16_2); (try clear hfz16_3); (try clear hfz23_0); (try clear hfz23_1); (try clear hfz23_2); (try clear hfz23_3); (try clear hfz25_0); (try clear hfz25_1); (try clear hfz25_2); (try clear hfz25_3); (try clear hfz27_0); (try clear hfz27_1); (try clear hfz27_2); (try clear hfz27_3); (try clear hfz31_0); (try clear hfz31_1); (try clear hfz31_2); (try clear hfz31_3); (try clear hfz34_0); (try clear hfz34_1); (try clear hfz34_2); (try clear hfz34_3); (try clear hfz36_0); (try clear hfz36_1); (try clear hfz36_2); (try clear hfz36_3); (try clear hfz42_0); (try clear hfz42_1); (try clear hfz42_2); (try clear hfz42_3); (try clear hfz44_0); (try clear hfz44_1); (try clear hfz44_2); (try clear hfz44_3); (try clear hfz46_0); (try clear hfz46_1); (try clear hfz46_2); (try clear hfz46_3); (try clear hfz49_0); (try clear hfz49_1); (try clear hfz49_2); (try clear hfz49_3); (try clear hfz52_0); (try clear hfz52_1); (try clear hfz52_2); (try clear hfz52_3); (try clear hfz54_0); (try clear hfz54_1); (try clear hfz54_2); (try clear hfz54_3); (try clear hfz8_0)
            (try clear hx218_0); (try clear hx218_1); (try clear hx218_2); (try clear hx218_3); (try clear hx221_0); (try clear hx222_0); (try clear hx223_0); (try clear hx224_0); (try clear p2); (try clear p21); (try clear p218); (try clear p22); (try clear p221); (try clear p222); (try clear p223); (try clear p224); (try clear p6); (try clear q2); (try clear q21); (try clear q218); (try clear q22); (try clear q221); (try clear q222); (try clear q223); (try clear q224)
            obtain ⟨x8_3, rfl, HA, HK3, BK217, BK219, HB⟩ := hrel
            cases gk with
            | zero => exact absurd HA.out (by simp [spec_l05Node.l2])
            | succ k3 =>
             have H := HA.out
             clear HA
             simp only [spec_l05Node.l2] at H
             by_cases c56 : x8_3 < (((rd_T58 l0_0 a1).f3).length : Int)
             ·
              rw [if_pos c56] at H
              have c56b0 : decide (x8_3 < (((rd_T58 l0_0 a1).f3).length : Int)) = true := decide_eq_true c56
              clear c56
              by_cases c57 : 0 ≤ x8_3
              ·
               rw [if_pos c57] at H
               have c57b0 : decide (0 ≤ x8_3) = true := decide_eq_true c57
               clear c57
               replace H := Option.bind_eq_some_iff.mp H
               obtain ⟨t226, A580, H⟩ := H
               replace H : (if t226 = true then (spec_l05Node.l2 k3 a1 (wrap64 (x8_3 + 1)) ((rd_T58 l0_0 a1).f0) ((rd_T58 l0_0 a1).f1) ((rd_T58 l0_0 a1).f2) ((rd_T58 l0_0 a1).f3)) else (some false)) = some r := H
               have A58 := Aside0.mk A580
               clear A580
               by_cases c59 : t226 = true
               ·
                subst c59
                have H1 : (spec_l05Node.l2 k3 a1 (wrap64 (x8_3 + 1)) ((rd_T58 l0_0 a1).f0) ((rd_T58 l0_0 a1).f1) ((rd_T58 l0_0 a1).f2) ((rd_T58 l0_0 a1).f3)) = some r := by rw [if_pos rfl] at H; exact H
                clear H
                have H := H1
                clear H1
                have H' := Aside0.mk H
                clear H
                have hnb60 := NB219_217.out
                have hnc60 := NB217_219.out
                have hcz61_0 : wr.cell? ⟨gb219, 0, none⟩ = some (.bool ((rd_T58 l0_0 a1).f0)) := (blk_cell BK219.out 0).trans rfl
                have hcz61_1 : wr.cell? ⟨gb219, 1, none⟩ = some (.slice A218_1 ((rd_T58 l0_0 a1).f1).length c218_1) := (blk_cell BK219.out 1).trans rfl
                have hcz61_2 : wr.cell? ⟨gb219, 2, none⟩ = some (.slice A218_2 ((rd_T58 l0_0 a1).f2).length c218_2) := (blk_cell BK219.out 2).trans rfl
                have hcz61_3 : wr.cell? ⟨gb219, 3, none⟩ = some (.slice A218_3 ((rd_T58 l0_0 a1).f3).length c218_3) := (blk_cell BK219.out 3).trans rfl
                have hfz61_0 := blk_frozen BK219.out 0
                have hfz61_1 := blk_frozen BK219.out 1
                have hfz61_2 := blk_frozen BK219.out 2
                have hfz61_3 := blk_frozen BK219.out 3
                have p225 : 0 ≤ (x8_3 : Int) := of_decide_eq_true (by with_reducible assumption)
                have q225 : x8_3 < (((rd_T58 l0_0 a1).f3).length : Int) := of_decide_eq_true (by with_reducible assumption)
                obtain ⟨ad225, e225, hx225_0⟩ := Kd.at_int HR218_3.out x8_3 p225 q225
                cases e225
                replace hx225_0 := (HB.out.cell (World.block_lt_of_cell? w _ hx225_0)).trans hx225_0
                replace p225 := eq_true p225
                replace q225 := eq_true q225
                go_wp2_with (first | (go_at_call 32; (with_reducible refine (spec_l01In.calls (rd ((rd_T58 l0_0 a1).f3) x8_3) 0 (wrap64 (a1 - 1)) true _ A58.out).mono ?_); rintro e w' ⟨rfl, ⟨nd, rfl⟩⟩; (try first | exact ⟨rfl, _, World.drewN_drewN _ _ _⟩ | exact ⟨rfl, _, Eq.trans (World.drewN_drewN _ _ _) (congrArg (World.drewN _) (Nat.add_assoc _ _ _))⟩)))
                repeat (go_quiet (first | (go_at_call 32; (try simp only [i64_w]); (with_reducible refine (spec_l01In.calls (rd ((rd_T58 l0_0 a1).f3) x8_3) 0 (wrap64 (a1 - 1)) true _ A58.out).mono ?_); rintro e w' ⟨rfl, ⟨nd, rfl⟩⟩; (try first | exact ⟨rfl, _, World.drewN_drewN _ _ _⟩ | exact ⟨rfl, _, Eq.trans (World.drewN_drewN _ _ _) (congrArg (World.drewN _) (Nat.add_assoc _ _ _))⟩))); try go_wp2_with (first | (go_at_call 32; (with_reducible refine (spec_l01In.calls (rd ((rd_T58 l0_0 a1).f3) x8_3) 0 (wrap64 (a1 - 1)) true _ A58.out).mono ?_); rintro e w' ⟨rfl, ⟨nd, rfl⟩⟩; (try first | exact ⟨rfl, _, World.drewN_drewN _ _ _⟩ | exact ⟨rfl, _, Eq.trans (World.drewN_drewN _ _ _) (congrArg (World.drewN _) (Nat.add_assoc _ _ _))⟩))))
                go_roundg k3
                case measure => have := HK1.out; have := HJ46.out; have := HK3.out; omega
                case rel => exact ⟨(wrap64 (x8_3 + 1)), (by first | rfl | (simp; done) | (simp [*]; done)), H', ⟨by have := HK1.out; have := HJ46.out; have := HK3.out; omega⟩, ⟨by (with_reducible repeat (first | refine blk_drewN ?_ _ | refine blk_drew ?_ | refine blk_alloc ?_ _)); exact BK217.out⟩, ⟨by (with_reducible repeat (first | refine blk_drewN ?_ _ | refine blk_drew ?_ | refine blk_alloc ?_ _)); exact BK219.out⟩, ⟨by repeat (first | (with_reducible first | exact HB.out | apply below_alloc | apply pw_below_drewN | apply below_drew1 | refine below_set ?_ GE217.out | refine below_set ?_ GE219.out) | exact HB.out)⟩⟩
               ·
                replace c59 := Bool.eq_false_iff.mpr c59
                subst c59
                have H1 : (some false) = some r := by rw [if_neg (show ¬ (false = true) by decide)] at H; exact H
                clear H
                have H := H1
                clear H1
                obtain rfl := Option.some.inj H
                have hnb62 := NB219_217.out
                have hnc62 := NB217_219.out
                have hcz63_0 : wr.cell? ⟨gb219, 0, none⟩ = some (.bool ((rd_T58 l0_0 a1).f0)) := (blk_cell BK219.out 0).trans rfl
                have hcz63_1 : wr.cell? ⟨gb219, 1, none⟩ = some (.slice A218_1 ((rd_T58 l0_0 a1).f1).length c218_1) := (blk_cell BK219.out 1).trans rfl
                have hcz63_2 : wr.cell? ⟨gb219, 2, none⟩ = some (.slice A218_2 ((rd_T58 l0_0 a1).f2).length c218_2) := (blk_cell BK219.out 2).trans rfl
                have hcz63_3 : wr.cell? ⟨gb219, 3, none⟩ = some (.slice A218_3 ((rd_T58 l0_0 a1).f3).length c218_3) := (blk_cell BK219.out 3).trans rfl
                have hfz63_0 := blk_frozen BK219.out 0
                have hfz63_1 := blk_frozen BK219.out 1
                have hfz63_2 := blk_frozen BK219.out 2
                have hfz63_3 := blk_frozen BK219.out 3
                have p225 : 0 ≤ (x8_3 : Int) := of_decide_eq_true (by with_reducible assumption)
                have q225 : x8_3 < (((rd_T58 l0_0 a1).f3).length : Int) := of_decide_eq_true (by with_reducible assumption)
                obtain ⟨ad225, e225, hx225_0⟩ := Kd.at_int HR218_3.out x8_3 p225 q225
                cases e225
                replace hx225_0 := (HB.out.cell (World.block_lt_of_cell? w _ hx225_0)).trans hx225_0
                replace p225 := eq_true p225
                replace q225 := eq_true q225
                go_wp2_with (first | (go_at_call 32; (with_reducible refine (spec_l01In.calls (rd ((rd_T58 l0_0 a1).f3) x8_3) 0 (wrap64 (a1 - 1)) false _ A58.out).mono ?_); rintro e w' ⟨rfl, ⟨nd, rfl⟩⟩; (try first | exact ⟨rfl, _, World.drewN_drewN _ _ _⟩ | exact ⟨rfl, _, Eq.trans (World.drewN_drewN _ _ _) (congrArg (World.drewN _) (Nat.add_assoc _ _ _))⟩)))
                repeat (go_quiet (first | (go_at_call 32; (try simp only [i64_w]); (with_reducible refine (spec_l01In.calls (rd ((rd_T58 l0_0 a1).f3) x8_3) 0 (wrap64 (a1 - 1)) false _ A58.out).mono ?_); rintro e w' ⟨rfl, ⟨nd, rfl⟩⟩; (try first | exact ⟨rfl, _, World.drewN_drewN _ _ _⟩ | exact ⟨rfl, _, Eq.trans (World.drewN_drewN _ _ _) (congrArg (World.drewN _) (Nat.add_assoc _ _ _))⟩))); try go_wp2_with (first | (go_at_call 32; (with_reducible refine (spec_l01In.calls (rd ((rd_T58 l0_0 a1).f3) x8_3) 0 (wrap64 (a1 - 1)) false _ A58.out).mono ?_); rintro e w' ⟨rfl, ⟨nd, rfl⟩⟩; (try first | exact ⟨rfl, _, World.drewN_drewN _ _ _⟩ | exact ⟨rfl, _, Eq.trans (World.drewN_drewN _ _ _) (congrArg (World.drewN _) (Nat.add_assoc _ _ _))⟩))))
                go_ret
                exact ⟨by first | rfl | (simp [errW_none, errW_some] <;> rfl) | (simp [*, errW_none, errW_some] <;> rfl), by repeat (first | (with_reducible first | exact HB.out | apply below_alloc | apply pw_below_drewN | apply below_drew1 | refine below_set ?_ GE217.out | refine below_set ?_ GE219.out) | exact HB.out)⟩
              ·
               rw [if_neg c57] at H
               exact absurd H (by simp)
             ·
              rw [if_neg c56] at H
              have c56b0 : decide (x8_3 < (((rd_T58 l0_0 a1).f3).length : Int)) = false := decide_eq_false c56
              clear c56
              obtain rfl := Option.some.inj H
              have hnb64 := NB219_217.out
              have hnc64 := NB217_219.out
              have hcz65_0 : wr.cell? ⟨gb219, 0, none⟩ = some (.bool ((rd_T58 l0_0 a1).f0)) := (blk_cell BK219.out 0).trans rfl
              have hcz65_1 : wr.cell? ⟨gb219, 1, none⟩ = some (.slice A218_1 ((rd_T58 l0_0 a1).f1).length c218_1) := (blk_cell BK219.out 1).trans rfl
              have hcz65_2 : wr.cell? ⟨gb219, 2, none⟩ = some (.slice A218_2 ((rd_T58 l0_0 a1).f2).length c218_2) := (blk_cell BK219.out 2).trans rfl
              have hcz65_3 : wr.cell? ⟨gb219, 3, none⟩ = some (.slice A218_3 ((rd_T58 l0_0 a1).f3).length c218_3) := (blk_cell BK219.out 3).trans rfl
              have hfz65_0 := blk_frozen BK219.out 0
              have hfz65_1 := blk_frozen BK219.out 1
              have hfz65_2 := blk_frozen BK219.out 2
              have hfz65_3 := blk_frozen BK219.out 3
              go_wp2
              repeat (go_quiet (fail); try go_wp2)
              go_ret
              exact ⟨by first | rfl | (simp [errW_none, errW_some] <;> rfl) | (simp [*, errW_none, errW_some] <;> rfl), by repeat (first | (with_reducible first | exact HB.out | apply below_alloc | apply pw_below_drewN | apply below_drew1 | refine below_set ?_ GE217.out | refine below_set ?_ GE219.out) | exact HB.out)⟩
   ·
    replace c6 := Bool.eq_false_iff.mpr c6
    subst c6
    have H1 : (some false) = some r := by rw [if_neg (show ¬ (false = true) by decide)] at H; exact H
    clear H
    have H := H1
    clear H1
    obtain rfl := Option.some.inj H
    go_enter Try.func48, Try.ntmps48
    go_wp2_with (first | ((with_reducible refine gate_dst (N := 2) rfl ?_); (try (refine gate_guard (by rfl) ?_; dsimp only)); refine box_event ?hg (N := 2) ?hd (cs := #[.slice A0_0 l0_0.length c0_0]) (t := 31) ?hr ?_; (case hd => rfl); (case hg => rfl); (case hr => first | (go_simp; done) | (go_simp; rfl)); intro gb217 hg w66 hbox hb; have n0_ := Aside0.mk (below_step (by repeat (first | exact HB.out | apply below_alloc | apply pw_below_drewN | apply below_drew1)) hb); have n1_ := Aside0.mk (hbox); have n2_ := Aside0.mk ((by rw [hg]; exact (below_size (by repeat (first | exact HB.out | apply below_alloc | apply pw_below_drewN | apply below_drew1))) : w.heap.size ≤ gb217)); have n3_ := Aside0.mk ((by rw [hg]; exact (below_size (by repeat (first | exact HB.out | apply below_alloc | apply pw_below_drewN | apply below_drew1))) : w.heap.size ≤ gb217)); clear HB; have HB := n0_; have BK217 := n1_; have GW217 := n2_; have GE217 := n3_; clear n0_ n1_ n2_ n3_; clear hb hbox hg; have hcz67_0 : w66.cell? ⟨gb217, 0, none⟩ = some (.slice A0_0 l0_0.length c0_0) := (blk_cell BK217.out 0).trans rfl; have hfz67_0 := blk_frozen BK217.out 0; have p218 : 0 ≤ (a1 : Int) := of_decide_eq_true (by with_reducible assumption); have q218 : a1 < (l0_0.length : Int) := of_decide_eq_true (by with_reducible assumption); obtain ⟨ad218, A218_1, c218_1, A218_2, c218_2, A218_3, c218_3, e218, hx218_0, hx218_1, hx218_2, hx218_3, hl218_1, hi218_1, hl218_2, hi218_2, hl218_3, hi218_3⟩ := at_T58 HR0_0.out a1 p218 q218; cases e218; replace hx218_0 := (HB.out.cell (World.block_lt_of_cell? w _ hx218_0)).trans hx218_0; replace hx218_1 := (HB.out.cell (World.block_lt_of_cell? w _ hx218_1)).trans hx218_1; replace hx218_2 := (HB.out.cell (World.block_lt_of_cell? w _ hx218_2)).trans hx218_2; replace hx218_3 := (HB.out.cell (World.block_lt_of_cell? w _ hx218_3)).trans hx218_3; have HR218_1 := Aside0.mk hi218_1; have HC218_1 := Aside0.mk hl218_1; clear hi218_1 hl218_1; have HR218_2 := Aside0.mk hi218_2; have HC218_2 := Aside0.mk hl218_2; clear hi218_2 hl218_2; have HR218_3 := Aside0.mk hi218_3; have HC218_3 := Aside0.mk hl218_3; clear hi218_3 hl218_3; replace p218 := eq_true p218; replace q218 := eq_true q218) | ((with_reducible refine gate_dst (N := 5) rfl ?_); (try (refine gate_guard (by rfl) ?_; dsimp only)); refine box_event ?hg (N := 5) ?hd (cs := #[.bool false, .slice none 0 0, .slice none 0 0, .slice none 0 0]) (t := 58) ?hr ?_; (case hd => rfl); (case hg => rfl); (case hr => first | (go_simp; done) | (go_simp; rfl)); intro gb219 hg w68 hbox hb; have n0_ := Aside0.mk (blk_below (g := gb217) (o := .cells #[.slice (some ad218) l0_0.length c0_0] 31 (0, 0)) (by (with_reducible repeat (first | refine blk_drewN ?_ _ | refine blk_drew ?_ | refine blk_alloc ?_ _)); exact BK217.out) hb); have n1_ := Aside0.mk (below_step (by repeat (first | (with_reducible first | exact HB.out | apply below_alloc | apply pw_below_drewN | apply below_drew1 | refine below_set ?_ GE217.out) | exact HB.out)) hb); have n2_ := Aside0.mk (hbox); have n3_ := Aside0.mk ((by rw [hg]; exact (below_size (by repeat (first | (with_reducible first | exact HB.out | apply below_alloc | apply pw_below_drewN | apply below_drew1 | refine below_set ?_ GE217.out) | exact HB.out))) : w.heap.size ≤ gb219)); have n4_ := Aside0.mk ((by rw [hg]; exact (below_size (by repeat (first | (with_reducible first | exact HB.out | apply below_alloc | apply pw_below_drewN | apply below_drew1 | refine below_set ?_ GE217.out) | exact HB.out))) : w.heap.size ≤ gb219)); have n5_ := Aside0.mk ((by rw [hg]; exact Nat.ne_of_lt (blk_lt (g := gb217) (o := .cells #[.slice (some ad218) l0_0.length c0_0] 31 (0, 0)) (by (with_reducible repeat (first | refine blk_drewN ?_ _ | refine blk_drew ?_ | refine blk_alloc ?_ _)); exact BK217.out)) : gb217 ≠ gb219)); have n6_ := Aside0.mk ((by rw [hg]; exact Nat.ne_of_gt (blk_lt (g := gb217) (o := .cells #[.slice (some ad218) l0_0.length c0_0] 31 (0, 0)) (by (with_reducible repeat (first | refine blk_drewN ?_ _ | refine blk_drew ?_ | refine blk_alloc ?_ _)); exact BK217.out)) : gb219 ≠ gb217)); clear BK217; clear HB; have BK217 := n0_; have HB := n1_; have BK219 := n2_; have GW219 := n3_; have GE219 := n4_; have NB217_219 := n5_; have NB219_217 := n6_; clear n0_ n1_ n2_ n3_ n4_ n5_ n6_; clear hb hbox hg; have hnb69 := NB219_217.out; have hnc69 := NB217_219.out; have hcz70_0 : w68.cell? ⟨gb219, 0, none⟩ = some (.bool false) := (blk_cell BK219.out 0).trans rfl; have hcz70_1 : w68.cell? ⟨gb219, 1, none⟩ = some (.slice none 0 0) := (blk_cell BK219.out 1).trans rfl; have hcz70_2 : w68.cell? ⟨gb219, 2, none⟩ = some (.slice none 0 0) := (blk_cell BK219.out 2).trans rfl; have hcz70_3 : w68.cell? ⟨gb219, 3, none⟩ = some (.slice none 0 0) := (blk_cell BK219.out 3).trans rfl; have hfz70_0 := blk_frozen BK219.out 0; have hfz70_1 := blk_frozen BK219.out 1; have hfz70_2 := blk_frozen BK219.out 2; have hfz70_3 := blk_frozen BK219.out 3) | (go_at_call 32; (with_reducible refine (spec_l01In.calls (((rd_T58 l0_0 a1).f1).length : Int) 1 4 false _ A5.out).mono ?_); rintro e w' ⟨rfl, ⟨nd, rfl⟩⟩; (try first | exact ⟨rfl, _, World.drewN_drewN _ _ _⟩ | exact ⟨rfl, _, Eq.trans (World.drewN_drewN _ _ _) (congrArg (World.drewN _) (Nat.add_assoc _ _ _))⟩)))
    repeat (go_quiet (first | ((with_reducible refine gate_dst (N := 2) rfl ?_); (try (refine gate_guard (by rfl) ?_; dsimp only)); refine box_event ?hg (N := 2) ?hd (cs := #[.slice A0_0 l0_0.length c0_0]) (t := 31) ?hr ?_; (case hd => rfl); (case hg => rfl); (case hr => first | (go_simp; done) | (go_simp; rfl)); intro gb217 hg w66 hbox hb; have n0_ := Aside0.mk (below_step (by repeat (first | exact HB.out | apply below_alloc | apply pw_below_drewN | apply below_drew1)) hb); have n1_ := Aside0.mk (hbox); have n2_ := Aside0.mk ((by rw [hg]; exact (below_size (by repeat (first | exact HB.out | apply below_alloc | apply pw_below_drewN | apply below_drew1))) : w.heap.size ≤ gb217)); have n3_ := Aside0.mk ((by rw [hg]; exact (below_size (by repeat (first | exact HB.out | apply below_alloc | apply pw_below_drewN | apply below_drew1))) : w.heap.size ≤ gb217)); clear HB; have HB := n0_; have BK217 := n1_; have GW217 := n2_; have GE217 := n3_; clear n0_ n1_ n2_ n3_; clear hb hbox hg; have hcz67_0 : w66.cell? ⟨gb217, 0, none⟩ = some (.slice A0_0 l0_0.length c0_0) := (blk_cell BK217.out 0).trans rfl; have hfz67_0 := blk_frozen BK217.out 0; have p218 : 0 ≤ (a1 : Int) := of_decide_eq_true (by with_reducible assumption); have q218 : a1 < (l0_0.length : Int) := of_decide_eq_true (by with_reducible assumption); obtain ⟨ad218, A218_1, c218_1, A218_2, c218_2, A218_3, c218_3, e218, hx218_0, hx218_1, hx218_2, hx218_3, hl218_1, hi218_1, hl218_2, hi218_2, hl218_3, hi218_3⟩ := at_T58 HR0_0.out a1 p218 q218; cases e218; replace hx218_0 := (HB.out.cell (World.block_lt_of_cell? w _ hx218_0)).trans hx218_0; replace hx218_1 := (HB.out.cell (World.block_lt_of_cell? w _ hx218_1)).trans hx218_1; replace hx218_2 := (HB.out.cell (World.block_lt_of_cell? w _ hx218_2)).trans hx218_2; replace hx218_3 := (HB.out.cell (World.block_lt_of_cell? w _ hx218_3)).trans hx218_3; have HR218_1 := Aside0.mk hi218_1; have HC218_1 := Aside0.mk hl218_1; clear hi218_1 hl218_1; have HR218_2 := Aside0.mk hi218_2; have HC218_2 := Aside0.mk hl218_2; clear hi218_2 hl218_2; have HR218_3 := Aside0.mk hi218_3; have HC218_3 := Aside0.mk hl218_3; clear hi218_3 hl218_3; replace p218 := eq_true p218; replace q218 := eq_true q218) | ((with_reducible refine gate_dst (N := 5) rfl ?_); (try (refine gate_guard (by rfl) ?_; dsimp only)); refine box_event ?hg (N := 5) ?hd (cs := #[.bool false, .slice none 0 0, .slice none 0 0, .slice none 0 0]) (t := 58) ?hr ?_; (case hd => rfl); (case hg => rfl); (case hr => first | (go_simp; done) | (go_simp; rfl)); intro gb219 hg w68 hbox hb; have n0_ := Aside0.mk (blk_below (g := gb217) (o := .cells #[.slice (some ad218) l0_0.length c0_0] 31 (0, 0)) (by (with_reducible repeat (first | refine blk_drewN ?_ _ | refine blk_drew ?_ | refine blk_alloc ?_ _)); exact BK217.out) hb); have n1_ := Aside0.mk (below_step (by repeat (first | (with_reducible first | exact HB.out | apply below_alloc | apply pw_below_drewN | apply below_drew1 | refine below_set ?_ GE217.out) | exact HB.out)) hb); have n2_ := Aside0.mk (hbox); have n3_ := Aside0.mk ((by rw [hg]; exact (below_size (by repeat (first | (with_reducible first | exact HB.out | apply below_alloc | apply pw_below_drewN | apply below_drew1 | refine below_set ?_ GE217.out) | exact HB.out))) : w.heap.size ≤ gb219)); have n4_ := Aside0.mk ((by rw [hg]; exact (below_size (by repeat (first | (with_reducible first | exact HB.out | apply below_alloc | apply pw_below_drewN | apply below_drew1 | refine below_set ?_ GE217.out) | exact HB.out))) : w.heap.size ≤ gb219)); have n5_ := Aside0.mk ((by rw [hg]; exact Nat.ne_of_lt (blk_lt (g := gb217) (o := .cells #[.slice (some ad218) l0_0.length c0_0] 31 (0, 0)) (by (with_reducible repeat (first | refine blk_drewN ?_ _ | refine blk_drew ?_ | refine blk_alloc ?_ _)); exact BK217.out)) : gb217 ≠ gb219)); have n6_ := Aside0.mk ((by rw [hg]; exact Nat.ne_of_gt (blk_lt (g := gb217) (o := .cells #[.slice (some ad218) l0_0.length c0_0] 31 (0, 0)) (by (with_reducible repeat (first | refine blk_drewN ?_ _ | refine blk_drew ?_ | refine blk_alloc ?_ _)); exact BK217.out)) : gb219 ≠ gb217)); clear BK217; clear HB; have BK217 := n0_; have HB := n1_; have BK219 := n2_; have GW219 := n3_; have GE219 := n4_; have NB217_219 := n5_; have NB219_217 := n6_; clear n0_ n1_ n2_ n3_ n4_ n5_ n6_; clear hb hbox hg; have hnb69 := NB219_217.out; have hnc69 := NB217_219.out; have hcz70_0 : w68.cell? ⟨gb219, 0, none⟩ = some (.bool false) := (blk_cell BK219.out 0).trans rfl; have hcz70_1 : w68.cell? ⟨gb219, 1, none⟩ = some (.slice none 0 0) := (blk_cell BK219.out 1).trans rfl; have hcz70_2 : w68.cell? ⟨gb219, 2, none⟩ = some (.slice none 0 0) := (blk_cell BK219.out 2).trans rfl; have hcz70_3 : w68.cell? ⟨gb219, 3, none⟩ = some (.slice none 0 0) := (blk_cell BK219.out 3).trans rfl; have hfz70_0 := blk_frozen BK219.out 0; have hfz70_1 := blk_frozen BK219.out 1; have hfz70_2 := blk_frozen BK219.out 2; have hfz70_3 := blk_frozen BK219.out 3) | (go_at_call 32; (try simp only [i64_w]); (with_reducible refine (spec_l01In.calls (((rd_T58 l0_0 a1).f1).length : Int) 1 4 false _ A5.out).mono ?_); rintro e w' ⟨rfl, ⟨nd, rfl⟩⟩; (try first | exact ⟨rfl, _, World.drewN_drewN _ _ _⟩ | exact ⟨rfl, _, Eq.trans (World.drewN_drewN _ _ _) (congrArg (World.drewN _) (Nat.add_assoc _ _ _))⟩))); try go_wp2_with (first | ((with_reducible refine gate_dst (N := 2) rfl ?_); (try (refine gate_guard (by rfl) ?_; dsimp only)); refine box_event ?hg (N := 2) ?hd (cs := #[.slice A0_0 l0_0.length c0_0]) (t := 31) ?hr ?_; (case hd => rfl); (case hg => rfl); (case hr => first | (go_simp; done) | (go_simp; rfl)); intro gb217 hg w66 hbox hb; have n0_ := Aside0.mk (below_step (by repeat (first | exact HB.out | apply below_alloc | apply pw_below_drewN | apply below_drew1)) hb); have n1_ := Aside0.mk (hbox); have n2_ := Aside0.mk ((by rw [hg]; exact (below_size (by repeat (first | exact HB.out | apply below_alloc | apply pw_below_drewN | apply below_drew1))) : w.heap.size ≤ gb217)); have n3_ := Aside0.mk ((by rw [hg]; exact (below_size (by repeat (first | exact HB.out | apply below_alloc | apply pw_below_drewN | apply below_drew1))) : w.heap.size ≤ gb217)); clear HB; have HB := n0_; have BK217 := n1_; have GW217 := n2_; have GE217 := n3_; clear n0_ n1_ n2_ n3_; clear hb hbox hg; have hcz67_0 : w66.cell? ⟨gb217, 0, none⟩ = some (.slice A0_0 l0_0.length c0_0) := (blk_cell BK217.out 0).trans rfl; have hfz67_0 := blk_frozen BK217.out 0; have p218 : 0 ≤ (a1 : Int) := of_decide_eq_true (by with_reducible assumption); have q218 : a1 < (l0_0.length : Int) := of_decide_eq_true (by with_reducible assumption); obtain ⟨ad218, A218_1, c218_1, A218_2, c218_2, A218_3, c218_3, e218, hx218_0, hx218_1, hx218_2, hx218_3, hl218_1, hi218_1, hl218_2, hi218_2, hl218_3, hi218_3⟩ := at_T58 HR0_0.out a1 p218 q218; cases e218; replace hx218_0 := (HB.out.cell (World.block_lt_of_cell? w _ hx218_0)).trans hx218_0; replace hx218_1 := (HB.out.cell (World.block_lt_of_cell? w _ hx218_1)).trans hx218_1; replace hx218_2 := (HB.out.cell (World.block_lt_of_cell? w _ hx218_2)).trans hx218_2; replace hx218_3 := (HB.out.cell (World.block_lt_of_cell? w _ hx218_3)).trans hx218_3; have HR218_1 := Aside0.mk hi218_1; have HC218_1 := Aside0.mk hl218_1; clear hi218_1 hl218_1; have HR218_2 := Aside0.mk hi218_2; have HC218_2 := Aside0.mk hl218_2; clear hi218_2 hl218_2; have HR218_3 := Aside0.mk hi218_3; have HC218_3 := Aside0.mk hl218_3; clear hi218_3 hl218_3; replace p218 := eq_true p218; replace q218 := eq_true q218) | ((with_reducible refine gate_dst (N := 5) rfl ?_); (try (refine gate_guard (by rfl) ?_; dsimp only)); refine box_event ?hg (N := 5) ?hd (cs := #[.bool false, .slice none 0 0, .slice none 0 0, .slice none 0 0]) (t := 58) ?hr ?_; (case hd => rfl); (case hg => rfl); (case hr => first | (go_simp; done) | (go_simp; rfl)); intro gb219 hg w68 hbox hb; have n0_ := Aside0.mk (blk_below (g := gb217) (o := .cells #[.slice (some ad218) l0_0.length c0_0] 31 (0, 0)) (by (with_reducible repeat (first | refine blk_drewN ?_ _ | refine blk_drew ?_ | refine blk_alloc ?_ _)); exact BK217.out) hb); have n1_ := Aside0.mk (below_step (by repeat (first | (with_reducible first | exact HB.out | apply below_alloc | apply pw_below_drewN | apply below_drew1 | refine below_set ?_ GE217.out) | exact HB.out)) hb); have n2_ := Aside0.mk (hbox); have n3_ := Aside0.mk ((by rw [hg]; exact (below_size (by repeat (first | (with_reducible first | exact HB.out | apply below_alloc | apply pw_below_drewN | apply below_drew1 | refine below_set ?_ GE217.out) | exact HB.out))) : w.heap.size ≤ gb219)); have n4_ := Aside0.mk ((by rw [hg]; exact (below_size (by repeat (first | (with_reducible first | exact HB.out | apply below_alloc | apply pw_below_drewN | apply below_drew1 | refine below_set ?_ GE217.out) | exact HB.out))) : w.heap.size ≤ gb219)); have n5_ := Aside0.mk ((by rw [hg]; exact Nat.ne_of_lt (blk_lt (g := gb217) (o := .cells #[.slice (some ad218) l0_0.length c0_0] 31 (0, 0)) (by (with_reducible repeat (first | refine blk_drewN ?_ _ | refine blk_drew ?_ | refine blk_alloc ?_ _)); exact BK217.out)) : gb217 ≠ gb219)); have n6_ := Aside0.mk ((by rw [hg]; exact Nat.ne_of_gt (blk_lt (g := gb217) (o := .cells #[.slice (some ad218) l0_0.length c0_0] 31 (0, 0)) (by (with_reducible repeat (first | refine blk_drewN ?_ _ | refine blk_drew ?_ | refine blk_alloc ?_ _)); exact BK217.out)) : gb219 ≠ gb217)); clear BK217; clear HB; have BK217 := n0_; have HB := n1_; have BK219 := n2_; have GW219 := n3_; have GE219 := n4_; have NB217_219 := n5_; have NB219_217 := n6_; clear n0_ n1_ n2_ n3_ n4_ n5_ n6_; clear hb hbox hg; have hnb69 := NB219_217.out; have hnc69 := NB217_219.out; have hcz70_0 : w68.cell? ⟨gb219, 0, none⟩ = some (.bool false) := (blk_cell BK219.out 0).trans rfl; have hcz70_1 : w68.cell? ⟨gb219, 1, none⟩ = some (.slice none 0 0) := (blk_cell BK219.out 1).trans rfl; have hcz70_2 : w68.cell? ⟨gb219, 2, none⟩ = some (.slice none 0 0) := (blk_cell BK219.out 2).trans rfl; have hcz70_3 : w68.cell? ⟨gb219, 3, none⟩ = some (.slice none 0 0) := (blk_cell BK219.out 3).trans rfl; have hfz70_0 := blk_frozen BK219.out 0; have hfz70_1 := blk_frozen BK219.out 1; have hfz70_2 := blk_frozen BK219.out 2; have hfz70_3 := blk_frozen BK219.out 3) | (go_at_call 32; (with_reducible refine (spec_l01In.calls (((rd_T58 l0_0 a1).f1).length : Int) 1 4 false _ A5.out).mono ?_); rintro e w' ⟨rfl, ⟨nd, rfl⟩⟩; (try first | exact ⟨rfl, _, World.drewN_drewN _ _ _⟩ | exact ⟨rfl, _, Eq.trans (World.drewN_drewN _ _ _) (congrArg (World.drewN _) (Nat.add_assoc _ _ _))⟩))))
    go_ret
    exact ⟨by first | rfl | (simp [errW_none, errW_some] <;> rfl) | (simp [*, errW_none, errW_some] <;> rfl), by repeat (first | (with_reducible first | exact HB.out | apply below_alloc | apply pw_below_drewN | apply below_drew1 | refine below_set ?_ GE217.out | refine below_set ?_ GE219.out) | exact HB.out)⟩
  ·
   rw [if_neg c4] at H
   exact absurd H (by simp)
 ·
  rw [if_neg c3] at H
  exact absurd H (by simp)

end Go.Proofs.Ytcefdpjlpjgaiaa.XK
