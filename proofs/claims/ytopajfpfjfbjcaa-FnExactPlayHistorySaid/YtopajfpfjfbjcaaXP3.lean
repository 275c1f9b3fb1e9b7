-- Written by a program of the session (wip/xprint.py), out of the translation. Lean checks it.
import Derived.Test.YtopajfpfjfbjcaaXP0
import Derived.Test.YtopajfpfjfbjcaaXP2
namespace Go.Proofs.Ytopajfpfjfbjcaa.XP
open Go.RowKit Go.Proofs.YtopajfpfjfbjcaaW.PrintWords Go.Proofs.YtopajfpfjfbjcaaW.PrintLast Go.Proofs.YtopajfpfjfbjcaaW.PrintMore
attribute [local go_sem] max2_int min2_int max_two min_two max_three min_three max_four min_four Go.Proofs.Ytopajfpfjfbjcaa.Xtra.binOp_gtr Go.Proofs.Ytopajfpfjfbjcaa.Xtra.binOp_leq Go.Proofs.Ytopajfpfjfbjcaa.Xtra.binOp_geq   -- for this text's walks alone
set_option linter.unusedVariables false
set_option linter.unusedSimpArgs false

/-! ### spec_HistoryOK: function 23 -/
mutual
def spec_HistoryOK.l0 : Nat → List (S47) → Int → Option (Bool)
 | 0, _, _ => none
 | k + 1, x0, x3 => if x3 < (x0.length : Int) then (if 0 ≤ x3 then ((spec_l01In.f ((rd_T47 x0 x3).f0) 0 5).bind fun t134 => (if t134 = true then ((spec_l01In.f ((rd_T47 x0 x3).f1) 1 4).bind fun t135 => (spec_HistoryOK.j1 k x0 x3 (!t135) ((rd_T47 x0 x3).f0) ((rd_T47 x0 x3).f1) ((rd_T47 x0 x3).f2) ((rd_T47 x0 x3).f3))) else (spec_HistoryOK.j1 k x0 x3 true ((rd_T47 x0 x3).f0) ((rd_T47 x0 x3).f1) ((rd_T47 x0 x3).f2) ((rd_T47 x0 x3).f3)))) else (none)) else (some true)
def spec_HistoryOK.j1 : Nat → List (S47) → Int → Bool → Int → Int → ByteArray → ByteArray → Option (Bool)
 | 0, _, _, _, _, _, _, _ => none
 | k + 1, x0, x3, x31, x134000, x134001, x134002, x134003 => if x31 = true then (some false) else (if x134001 ≥ 3 then (if x134002.toList = ([] : List UInt8) then (if x134003.toList = ([] : List UInt8) then (if x134001 < 3 then ((spec_l07Key.f x134002).bind fun t136 => (if t136 = true then (if x134001 = 2 then (spec_HistoryOK.j2 k x0 x3 (decide ((x134003.size : Int) > 200)) x134000 x134001 x134002 x134003) else (spec_HistoryOK.j2 k x0 x3 (decide ((x134003.size : Int) > 200)) x134000 x134001 x134002 x134003)) else (spec_HistoryOK.j2 k x0 x3 true x134000 x134001 x134002 x134003))) else (if x134001 = 2 then (spec_HistoryOK.j2 k x0 x3 (decide ((x134003.size : Int) > 200)) x134000 x134001 x134002 x134003) else (spec_HistoryOK.j2 k x0 x3 (decide ((x134003.size : Int) > 200)) x134000 x134001 x134002 x134003))) else (spec_HistoryOK.j2 k x0 x3 true x134000 x134001 x134002 x134003)) else (spec_HistoryOK.j2 k x0 x3 true x134000 x134001 x134002 x134003)) else (if x134001 < 3 then ((spec_l07Key.f x134002).bind fun t137 => (if t137 = true then (if x134001 = 2 then (spec_HistoryOK.j2 k x0 x3 (decide ((x134003.size : Int) > 200)) x134000 x134001 x134002 x134003) else (if x134003.toList = ([] : List UInt8) then (spec_HistoryOK.j2 k x0 x3 (decide ((x134003.size : Int) > 200)) x134000 x134001 x134002 x134003) else (spec_HistoryOK.j2 k x0 x3 true x134000 x134001 x134002 x134003))) else (spec_HistoryOK.j2 k x0 x3 true x134000 x134001 x134002 x134003))) else (if x134001 = 2 then (spec_HistoryOK.j2 k x0 x3 (decide ((x134003.size : Int) > 200)) x134000 x134001 x134002 x134003) else (if x134003.toList = ([] : List UInt8) then (spec_HistoryOK.j2 k x0 x3 (decide ((x134003.size : Int) > 200)) x134000 x134001 x134002 x134003) else (spec_HistoryOK.j2 k x0 x3 true x134000 x134001 x134002 x134003)))))
def spec_HistoryOK.j2 : Nat → List (S47) → Int → Bool → Int → Int → ByteArray → ByteArray → Option (Bool)
 | 0, _, _, _, _, _, _, _ => none
 | k + 1, x0, x3, x71, x134000, x134001, x134002, x134003 => if x71 = true then (some false) else ((spec_l08Done.f k x0 x134000).bind fun t138 => (if t138 < 0 then (some false) else (if t138 < x3 then (some false) else (spec_HistoryOK.l0 k x0 (wrap64 (x3 + 1))))))
end
def spec_HistoryOK.f (k : Nat) (l0 : List (S47)) : Option (Bool) := if (l0.length : Int) > 4096 then (some false) else (if (l0.length : Int) > 60 then (some false) else (spec_HistoryOK.l0 k l0 0))
theorem spec_HistoryOK.mono_l : ∀ k, (∀ y0 y1, LeO (spec_HistoryOK.l0 k y0 y1) (spec_HistoryOK.l0 (k + 1) y0 y1)) ∧ (∀ y0 y1 y2 y3 y4 y5 y6, LeO (spec_HistoryOK.j1 k y0 y1 y2 y3 y4 y5 y6) (spec_HistoryOK.j1 (k + 1) y0 y1 y2 y3 y4 y5 y6)) ∧ (∀ y0 y1 y2 y3 y4 y5 y6, LeO (spec_HistoryOK.j2 k y0 y1 y2 y3 y4 y5 y6) (spec_HistoryOK.j2 (k + 1) y0 y1 y2 y3 y4 y5 y6))
 | 0 => ⟨fun _ _ r h => by simp [spec_HistoryOK.l0] at h, fun _ _ _ _ _ _ _ r h => by simp [spec_HistoryOK.j1] at h, fun _ _ _ _ _ _ _ r h => by simp [spec_HistoryOK.j2] at h⟩
 | k + 1 => by
  obtain ⟨ih0, ih1, ih2⟩ := spec_HistoryOK.mono_l k
  refine ⟨?_, ?_, ?_⟩
  ·
   intro y0 y1
   unfold spec_HistoryOK.l0
   repeat' first
   | (with_reducible exact ih0 _ _)
   | (with_reducible exact ih1 _ _ _ _ _ _ _)
   | (with_reducible exact ih2 _ _ _ _ _ _ _)
   | (with_reducible exact spec_l08Done.mono _ _ _)
   | (with_reducible exact LeO.refl _)
   | (with_reducible exact LeO.none _)
   | (with_reducible refine LeO.ite ?_ ?_)
   | (with_reducible refine LeO.bind ?_ (fun _ => ?_))
   | exact ih0 _ _
   | exact ih1 _ _ _ _ _ _ _
   | exact ih2 _ _ _ _ _ _ _
   | exact spec_l08Done.mono _ _ _
   | exact LeO.none _
   | refine LeO.ite ?_ ?_
   | refine LeO.bind ?_ (fun _ => ?_)
  ·
   intro y0 y1 y2 y3 y4 y5 y6
   unfold spec_HistoryOK.j1
   repeat' first
   | (with_reducible exact ih0 _ _)
   | (with_reducible exact ih1 _ _ _ _ _ _ _)
   | (with_reducible exact ih2 _ _ _ _ _ _ _)
   | (with_reducible exact spec_l08Done.mono _ _ _)
   | (with_reducible exact LeO.refl _)
   | (with_reducible exact LeO.none _)
   | (with_reducible refine LeO.ite ?_ ?_)
   | (with_reducible refine LeO.bind ?_ (fun _ => ?_))
   | exact ih0 _ _
   | exact ih1 _ _ _ _ _ _ _
   | exact ih2 _ _ _ _ _ _ _
   | exact spec_l08Done.mono _ _ _
   | exact LeO.none _
   | refine LeO.ite ?_ ?_
   | refine LeO.bind ?_ (fun _ => ?_)
  ·
   intro y0 y1 y2 y3 y4 y5 y6
   unfold spec_HistoryOK.j2
   repeat' first
   | (with_reducible exact ih0 _ _)
   | (with_reducible exact ih1 _ _ _ _ _ _ _)
   | (with_reducible exact ih2 _ _ _ _ _ _ _)
   | (with_reducible exact spec_l08Done.mono _ _ _)
   | (with_reducible exact LeO.refl _)
   | (with_reducible exact LeO.none _)
   | (with_reducible refine LeO.ite ?_ ?_)
   | (with_reducible refine LeO.bind ?_ (fun _ => ?_))
   | exact ih0 _ _
   | exact ih1 _ _ _ _ _ _ _
   | exact ih2 _ _ _ _ _ _ _
   | exact spec_l08Done.mono _ _ _
   | exact LeO.none _
   | refine LeO.ite ?_ ?_
   | refine LeO.bind ?_ (fun _ => ?_)
theorem spec_HistoryOK.mono : ∀ a0 k, LeO (spec_HistoryOK.f k a0) (spec_HistoryOK.f (k + 1) a0) := by
 intro a0 k
 obtain ⟨ih0, ih1, ih2⟩ := spec_HistoryOK.mono_l k
 unfold spec_HistoryOK.f
 repeat' first
   | (with_reducible exact ih0 _ _)
   | (with_reducible exact ih1 _ _ _ _ _ _ _)
   | (with_reducible exact ih2 _ _ _ _ _ _ _)
   | (with_reducible exact spec_l08Done.mono _ _ _)
   | (with_reducible exact LeO.refl _)
   | (with_reducible exact LeO.none _)
   | (with_reducible refine LeO.ite ?_ ?_)
   | (with_reducible refine LeO.bind ?_ (fun _ => ?_))
   | exact ih0 _ _
   | exact ih1 _ _ _ _ _ _ _
   | exact ih2 _ _ _ _ _ _ _
   | exact spec_l08Done.mono _ _ _
   | exact LeO.none _
   | refine LeO.ite ?_ ?_
   | refine LeO.bind ?_ (fun _ => ?_)
set_option maxHeartbeats 8000000 in
set_option maxRecDepth 100000 in
theorem spec_HistoryOK.calls (k : Nat) (A0 : Option Addr) (c0 : Nat) (l0 : List (S47)) (r : Bool) (w : World) (hr0 : Kd.C k47 w A0 l0.length l0) (hc0 : l0.length ≤ c0) (h : spec_HistoryOK.f k l0 = some r) :
  Calls Try.prog 23 #[.slice A0 l0.length c0] w fun e w' => e = .returned (.bool r) ∧ Below w.heap.size w w' := by
 have hu47 := Try.underlying47
 have HR0 := Aside0.mk hr0
 have HC0 := Aside0.mk hc0
 clear hr0 hc0
 have HB := Aside0.mk (Below.refl w.heap.size w)
 have H : (if (l0.length : Int) > 4096 then (some false) else (if (l0.length : Int) > 60 then (some false) else (spec_HistoryOK.l0 k l0 0))) = some r := h
 clear h
 by_cases c2 : (l0.length : Int) > 4096
 ·
  rw [if_pos c2] at H
  have c2b0 : decide (4096 < (l0.length : Int)) = true := decide_eq_true c2
  have c2b1 : decide (4096 < l0.length) = true := decide_eq_true (by omega)
  clear c2
  obtain rfl := Option.some.inj H
  go_enter Try.func23, Try.ntmps23
  go_wp2
  go_ret
  exact ⟨by first | rfl | (simp [errW_none, errW_some] <;> rfl) | (simp [*, errW_none, errW_some] <;> rfl), by repeat (first | (with_reducible first | exact HB.out | apply below_alloc | apply pw_below_drewN | apply below_drew1) | exact HB.out)⟩
 ·
  rw [if_neg c2] at H
  have c2b0 : decide (4096 < (l0.length : Int)) = false := decide_eq_false c2
  have c2b1 : decide (4096 < l0.length) = false := decide_eq_false (by omega)
  clear c2
  by_cases c3 : (l0.length : Int) > 60
  ·
   rw [if_pos c3] at H
   have c3b0 : decide (60 < (l0.length : Int)) = true := decide_eq_true c3
   have c3b1 : decide (60 < l0.length) = true := decide_eq_true (by omega)
   clear c3
   obtain rfl := Option.some.inj H
   go_enter Try.func23, Try.ntmps23
   go_wp2
   go_ret
   exact ⟨by first | rfl | (simp [errW_none, errW_some] <;> rfl) | (simp [*, errW_none, errW_some] <;> rfl), by repeat (first | (with_reducible first | exact HB.out | apply below_alloc | apply pw_below_drewN | apply below_drew1) | exact HB.out)⟩
  ·
   rw [if_neg c3] at H
   have c3b0 : decide (60 < (l0.length : Int)) = false := decide_eq_false c3
   have c3b1 : decide (60 < l0.length) = false := decide_eq_false (by omega)
   clear c3
   have H' := Aside0.mk H
   clear H
   go_enter Try.func23, Try.ntmps23
   go_wp2
   go_loopg [3] k (fun kq v3 w' => ∃ (x3_1 : Int), v3 = .int .i64 x3_1 ∧ Aside0 (spec_HistoryOK.l0 kq l0 x3_1 = some r) ∧ Aside0 (kq ≤ k) ∧ Aside0 (Below w.heap.size w w'))
   case atStart => exact ⟨(0), (by first | rfl | (simp; done) | (simp [*]; done)), H', ⟨Nat.le_refl _⟩, ⟨by repeat (first | (with_reducible first | exact HB.out | apply below_alloc | apply pw_below_drewN | apply below_drew1) | exact HB.out)⟩⟩
   case round =>
    clear H'
    (try clear c2); (try clear c2b0); (try clear c2b1); (try clear p2); (try clear c3); (try clear c3b0); (try clear c3b1)
    obtain ⟨x3_1, rfl, HA, HK1, HB⟩ := hrel
    cases gk with
    | zero => exact absurd HA.out (by simp [spec_HistoryOK.l0])
    | succ k1 =>
     have H := HA.out
     clear HA
     simp only [spec_HistoryOK.l0] at H
     by_cases c4 : x3_1 < (l0.length : Int)
     ·
      rw [if_pos c4] at H
      have c4b0 : decide (x3_1 < (l0.length : Int)) = true := decide_eq_true c4
      clear c4
      by_cases c5 : 0 ≤ x3_1
      ·
       rw [if_pos c5] at H
       have c5b0 : decide (0 ≤ x3_1) = true := decide_eq_true c5
       clear c5
       have HC6 := Aside0.mk H
       clear H
       have p132 : 0 ≤ (x3_1 : Int) := of_decide_eq_true (by with_reducible assumption)
       have q132 : x3_1 < (l0.length : Int) := of_decide_eq_true (by with_reducible assumption)
       obtain ⟨ad132, e132, hx132_0, hx132_1, hx132_2, hx132_3⟩ := at_T47 HR0.out x3_1 p132 q132
       cases e132
       replace hx132_0 := (HB.out.cell (World.block_lt_of_cell? w _ hx132_0)).trans hx132_0
       replace hx132_1 := (HB.out.cell (World.block_lt_of_cell? w _ hx132_1)).trans hx132_1
       replace hx132_2 := (HB.out.cell (World.block_lt_of_cell? w _ hx132_2)).trans hx132_2
       replace hx132_3 := (HB.out.cell (World.block_lt_of_cell? w _ hx132_3)).trans hx132_3
       replace p132 := eq_true p132
       replace q132 := eq_true q132
       go_upto_region 9 with (first | ((with_reducible refine gate_dst (N := 4) rfl ?_); (try (refine gate_guard (by rfl) ?_; dsimp only)); refine box_event ?hg (N := 4) ?hd (cs := #[.int .i64 0, .int .i64 0, .string (⟨#[]⟩ : ByteArray), .string (⟨#[]⟩ : ByteArray)]) (t := 47) ?hr ?_; (case hd => rfl); (case hg => rfl); (case hr => first | (go_simp; done) | (go_simp; rfl)); intro gb133 hg w7 hbox hb; have n0_ := Aside0.mk (below_step (by repeat (first | exact HB.out | apply below_alloc | apply pw_below_drewN | apply below_drew1)) hb); have n1_ := Aside0.mk (hbox); have n2_ := Aside0.mk ((by rw [hg]; exact (below_size (by repeat (first | exact HB.out | apply below_alloc | apply pw_below_drewN | apply below_drew1))) : w.heap.size ≤ gb133)); have n3_ := Aside0.mk ((by rw [hg]; exact (below_size (by repeat (first | exact HB.out | apply below_alloc | apply pw_below_drewN | apply below_drew1))) : w.heap.size ≤ gb133)); clear HB; have HB := n0_; have BK133 := n1_; have GW133 := n2_; have GE133 := n3_; clear n0_ n1_ n2_ n3_; clear hb hbox hg; have hcz8_0 : w7.cell? ⟨gb133, 0, none⟩ = some (.int .i64 0) := (blk_cell BK133.out 0).trans rfl; have hcz8_1 : w7.cell? ⟨gb133, 1, none⟩ = some (.int .i64 0) := (blk_cell BK133.out 1).trans rfl; have hcz8_2 : w7.cell? ⟨gb133, 2, none⟩ = some (.string (⟨#[]⟩ : ByteArray)) := (blk_cell BK133.out 2).trans rfl; have hcz8_3 : w7.cell? ⟨gb133, 3, none⟩ = some (.string (⟨#[]⟩ : ByteArray)) := (blk_cell BK133.out 3).trans rfl; have hfz8_0 := blk_frozen BK133.out 0; have hfz8_1 := blk_frozen BK133.out 1; have hfz8_2 := blk_frozen BK133.out 2; have hfz8_3 := blk_frozen BK133.out 3))
       (try simp only [Act.put, List.setIfInBounds_toArray, List.set_cons_zero, List.set_cons_succ])
       go_cut [31] (fun v31 wc => ∃ (kq : Nat) (x31_5 : Bool), v31 = .bool x31_5 ∧ Aside0 (spec_HistoryOK.j1 kq l0 x3_1 x31_5 ((rd_T47 l0 x3_1).f0) ((rd_T47 l0 x3_1).f1) ((rd_T47 l0 x3_1).f2) ((rd_T47 l0 x3_1).f3) = some r) ∧ Aside0 (kq ≤ k1) ∧ Aside0 (wc.heap[gb133]? = some (.cells #[.int .i64 ((rd_T47 l0 x3_1).f0), .int .i64 ((rd_T47 l0 x3_1).f1), .string ((rd_T47 l0 x3_1).f2), .string ((rd_T47 l0 x3_1).f3)] 47 (0, 0))) ∧ Aside0 (Below w.heap.size w wc))
       case first =>
        have H := HC6.out
        clear HC6
        replace H := Option.bind_eq_some_iff.mp H
        obtain ⟨t134, A90, H⟩ := H
        replace H : (if t134 = true then ((spec_l01In.f ((rd_T47 l0 x3_1).f1) 1 4).bind fun t135 => (spec_HistoryOK.j1 k1 l0 x3_1 (!t135) ((rd_T47 l0 x3_1).f0) ((rd_T47 l0 x3_1).f1) ((rd_T47 l0 x3_1).f2) ((rd_T47 l0 x3_1).f3))) else (spec_HistoryOK.j1 k1 l0 x3_1 true ((rd_T47 l0 x3_1).f0) ((rd_T47 l0 x3_1).f1) ((rd_T47 l0 x3_1).f2) ((rd_T47 l0 x3_1).f3))) = some r := H
        have A9 := Aside0.mk A90
        clear A90
        by_cases c10 : t134 = true
        ·
         subst c10
         have H1 : ((spec_l01In.f ((rd_T47 l0 x3_1).f1) 1 4).bind fun t135 => (spec_HistoryOK.j1 k1 l0 x3_1 (!t135) ((rd_T47 l0 x3_1).f0) ((rd_T47 l0 x3_1).f1) ((rd_T47 l0 x3_1).f2) ((rd_T47 l0 x3_1).f3))) = some r := by rw [if_pos rfl] at H; exact H
         clear H
         have H := H1
         clear H1
         replace H := Option.bind_eq_some_iff.mp H
         obtain ⟨t135, A110, H⟩ := H
         replace H : (spec_HistoryOK.j1 k1 l0 x3_1 (!t135) ((rd_T47 l0 x3_1).f0) ((rd_T47 l0 x3_1).f1) ((rd_T47 l0 x3_1).f2) ((rd_T47 l0 x3_1).f3)) = some r := H
         have A11 := Aside0.mk A110
         clear A110
         have H' := Aside0.mk H
         clear H
         have hcz12_0 : w7.cell? ⟨gb133, 0, none⟩ = some (.int .i64 0) := (blk_cell BK133.out 0).trans rfl
         have hcz12_1 : w7.cell? ⟨gb133, 1, none⟩ = some (.int .i64 0) := (blk_cell BK133.out 1).trans rfl
         have hcz12_2 : w7.cell? ⟨gb133, 2, none⟩ = some (.string (⟨#[]⟩ : ByteArray)) := (blk_cell BK133.out 2).trans rfl
         have hcz12_3 : w7.cell? ⟨gb133, 3, none⟩ = some (.string (⟨#[]⟩ : ByteArray)) := (blk_cell BK133.out 3).trans rfl
         have hfz12_0 := blk_frozen BK133.out 0
         have hfz12_1 := blk_frozen BK133.out 1
         have hfz12_2 := blk_frozen BK133.out 2
         have hfz12_3 := blk_frozen BK133.out 3
         go_wp2_with (first | ((with_reducible refine gate_callee (f := 41) rfl ?_); refine goesL_ (some 24) rfl rfl Try.func41 (by kernel_rfl) rfl #[.int .i64 ((rd_T47 l0 x3_1).f0), .int .i64 0, .int .i64 5] rfl (by (try simp only [List.map_toArray, List.map_cons, List.map_nil]); try rfl) ?_; (with_reducible refine (spec_l01In.calls ((rd_T47 l0 x3_1).f0) 0 5 true _ A9.out).mono ?_); rintro e w' ⟨rfl, ⟨nd, rfl⟩⟩; refine ⟨_, rfl, ?_⟩) | (go_at_call 41; (with_reducible refine (spec_l01In.calls ((rd_T47 l0 x3_1).f1) 1 4 t135 _ A11.out).mono ?_); rintro e w' ⟨rfl, ⟨nd, rfl⟩⟩))
         go_meet
         case rel => exact ⟨_, (!t135), (by first | rfl | (simp; done) | (simp [*]; done)), H', ⟨by have := HK1.out; first | omega | exact Nat.le_refl _⟩, ⟨by (with_reducible repeat (first | refine blk_drewN ?_ _ | refine blk_drew ?_ | refine blk_alloc ?_ _)); refine blk_put (cs := #[.int .i64 ((rd_T47 l0 x3_1).f0), .int .i64 ((rd_T47 l0 x3_1).f1), .string ((rd_T47 l0 x3_1).f2), .string (⟨#[]⟩ : ByteArray)]) ?_ 3 _ rfl; (with_reducible repeat (first | refine blk_drewN ?_ _ | refine blk_drew ?_ | refine blk_alloc ?_ _)); refine blk_put (cs := #[.int .i64 ((rd_T47 l0 x3_1).f0), .int .i64 ((rd_T47 l0 x3_1).f1), .string (⟨#[]⟩ : ByteArray), .string (⟨#[]⟩ : ByteArray)]) ?_ 2 _ rfl; (with_reducible repeat (first | refine blk_drewN ?_ _ | refine blk_drew ?_ | refine blk_alloc ?_ _)); refine blk_put (cs := #[.int .i64 ((rd_T47 l0 x3_1).f0), .int .i64 0, .string (⟨#[]⟩ : ByteArray), .string (⟨#[]⟩ : ByteArray)]) ?_ 1 _ rfl; (with_reducible repeat (first | refine blk_drewN ?_ _ | refine blk_drew ?_ | refine blk_alloc ?_ _)); refine blk_put (cs := #[.int .i64 0, .int .i64 0, .string (⟨#[]⟩ : ByteArray), .string (⟨#[]⟩ : ByteArray)]) ?_ 0 _ rfl; (with_reducible repeat (first | refine blk_drewN ?_ _ | refine blk_drew ?_ | refine blk_alloc ?_ _)); exact BK133.out⟩, ⟨by repeat (first | (with_reducible first | exact HB.out | apply below_alloc | apply pw_below_drewN | apply below_drew1 | refine below_set ?_ GE133.out) | exact HB.out)⟩⟩
        ·
         replace c10 := Bool.eq_false_iff.mpr c10
         subst c10
         have H1 : (spec_HistoryOK.j1 k1 l0 x3_1 true ((rd_T47 l0 x3_1).f0) ((rd_T47 l0 x3_1).f1) ((rd_T47 l0 x3_1).f2) ((rd_T47 l0 x3_1).f3)) = some r := by rw [if_neg (show ¬ (false = true) by decide)] at H; exact H
         clear H
         have H := H1
         clear H1
         have H' := Aside0.mk H
         clear H
         have hcz13_0 : w7.cell? ⟨gb133, 0, none⟩ = some (.int .i64 0) := (blk_cell BK133.out 0).trans rfl
         have hcz13_1 : w7.cell? ⟨gb133, 1, none⟩ = some (.int .i64 0) := (blk_cell BK133.out 1).trans rfl
         have hcz13_2 : w7.cell? ⟨gb133, 2, none⟩ = some (.string (⟨#[]⟩ : ByteArray)) := (blk_cell BK133.out 2).trans rfl
         have hcz13_3 : w7.cell? ⟨gb133, 3, none⟩ = some (.string (⟨#[]⟩ : ByteArray)) := (blk_cell BK133.out 3).trans rfl
         have hfz13_0 := blk_frozen BK133.out 0
         have hfz13_1 := blk_frozen BK133.out 1
         have hfz13_2 := blk_frozen BK133.out 2
         have hfz13_3 := blk_frozen BK133.out 3
         go_wp2_with (first | ((with_reducible refine gate_callee (f := 41) rfl ?_); refine goesL_ (some 24) rfl rfl Try.func41 (by kernel_rfl) rfl #[.int .i64 ((rd_T47 l0 x3_1).f0), .int .i64 0, .int .i64 5] rfl (by (try simp only [List.map_toArray, List.map_cons, List.map_nil]); try rfl) ?_; (with_reducible refine (spec_l01In.calls ((rd_T47 l0 x3_1).f0) 0 5 false _ A9.out).mono ?_); rintro e w' ⟨rfl, ⟨nd, rfl⟩⟩; refine ⟨_, rfl, ?_⟩))
         go_meet
         case rel => exact ⟨_, (true), (by first | rfl | (simp; done) | (simp [*]; done)), H', ⟨by have := HK1.out; first | omega | exact Nat.le_refl _⟩, ⟨by (with_reducible repeat (first | refine blk_drewN ?_ _ | refine blk_drew ?_ | refine blk_alloc ?_ _)); refine blk_put (cs := #[.int .i64 ((rd_T47 l0 x3_1).f0), .int .i64 ((rd_T47 l0 x3_1).f1), .string ((rd_T47 l0 x3_1).f2), .string (⟨#[]⟩ : ByteArray)]) ?_ 3 _ rfl; (with_reducible repeat (first | refine blk_drewN ?_ _ | refine blk_drew ?_ | refine blk_alloc ?_ _)); refine blk_put (cs := #[.int .i64 ((rd_T47 l0 x3_1).f0), .int .i64 ((rd_T47 l0 x3_1).f1), .string (⟨#[]⟩ : ByteArray), .string (⟨#[]⟩ : ByteArray)]) ?_ 2 _ rfl; (with_reducible repeat (first | refine blk_drewN ?_ _ | refine blk_drew ?_ | refine blk_alloc ?_ _)); refine blk_put (cs := #[.int .i64 ((rd_T47 l0 x3_1).f0), .int .i64 0, .string (⟨#[]⟩ : ByteArray), .string (⟨#[]⟩ : ByteArray)]) ?_ 1 _ rfl; (with_reducible repeat (first | refine blk_drewN ?_ _ | refine blk_drew ?_ | refine blk_alloc ?_ _)); refine blk_put (cs := #[.int .i64 0, .int .i64 0, .string (⟨#[]⟩ : ByteArray), .string (⟨#[]⟩ : ByteArray)]) ?_ 0 _ rfl; (with_reducible repeat (first | refine blk_drewN ?_ _ | refine blk_drew ?_ | refine blk_alloc ?_ _)); exact BK133.out⟩, ⟨by repeat (first | (with_reducible first | exact HB.out | apply below_alloc | apply pw_below_drewN | apply below_drew1 | refine below_set ?_ GE133.out) | exact HB.out)⟩⟩
       case rest =>
        clear HC6
        (try clear c1); (try clear p1); (try clear q1); (try clear hx1); (try clear c2); (try clear c2b0); (try clear c2b1); (try clear p2); (try clear c3); (try clear c3b0); (try clear c3b1); (try clear c4); (try clear c4b0); (try clear c5); (try clear c5b0); (try clear c10); (try clear p13); (try clear q13); (try clear hx13); (try clear hcz12_0); (try clear hcz12_1); (try clear hcz12_2); (try clear hcz12_3); (try clear hcz13_0); (try clear hcz13_1); (try clear hcz13_2); (try clear hcz13_3); (try clear hcz8_0); (try clear hcz8_1); (try clear hcz8_2); (try clear hcz8_3); (try clear hfz12_0); (try clear hfz12_1); (try clear hfz12_2); (try clear hfz12_3); (try clear hfz13_0); (try clear hfz13_1); (try clear hfz13_2); (try clear hfz13_3); (try clear hfz8_0); (try clear hfz8_1); (try clear hfz8_2); (try clear hfz8_3); (try clear hx132_0); (try clear hx132_1); (try clear hx132_2); (try clear hx132_3); (try clear p132); (try clear p2); (try clear q132)
        obtain ⟨kq, x31_5, rfl, HA, HJ5, BK133, HB⟩ := hcut
        cases kq with
        | zero => exact absurd HA.out (by simp [spec_HistoryOK.j1])
        | succ kj5 =>
         have H := HA.out
         clear HA
         simp only [spec_HistoryOK.j1] at H
         by_cases c14 : x31_5 = true
         ·
          subst c14
          have H1 : (some false) = some r := by rw [if_pos rfl] at H; exact H
          clear H
          have H := H1
          clear H1
          obtain rfl := Option.some.inj H
          go_wp2
          go_ret
          exact ⟨by first | rfl | (simp [errW_none, errW_some] <;> rfl) | (simp [*, errW_none, errW_some] <;> rfl), by repeat (first | (with_reducible first | exact HB.out | apply below_alloc | apply pw_below_drewN | apply below_drew1 | refine below_set ?_ GE133.out) | exact HB.out)⟩
         ·
          replace c14 := Bool.eq_false_iff.mpr c14
          subst c14
          have H1 : (if ((rd_T47 l0 x3_1).f1) ≥ 3 then (if ((rd_T47 l0 x3_1).f2).toList = ([] : List UInt8) then (if ((rd_T47 l0 x3_1).f3).toList = ([] : List UInt8) then (if ((rd_T47 l0 x3_1).f1) < 3 then ((spec_l07Key.f ((rd_T47 l0 x3_1).f2)).bind fun t136 => (if t136 = true then (if ((rd_T47 l0 x3_1).f1) = 2 then (spec_HistoryOK.j2 kj5 l0 x3_1 (decide ((((rd_T47 l0 x3_1).f3).size : Int) > 200)) ((rd_T47 l0 x3_1).f0) ((rd_T47 l0 x3_1).f1) ((rd_T47 l0 x3_1).f2) ((rd_T47 l0 x3_1).f3)) else (spec_HistoryOK.j2 kj5 l0 x3_1 (decide ((((rd_T47 l0 x3_1).f3).size : Int) > 200)) ((rd_T47 l0 x3_1).f0) ((rd_T47 l0 x3_1).f1) ((rd_T47 l0 x3_1).f2) ((rd_T47 l0 x3_1).f3))) else (spec_HistoryOK.j2 kj5 l0 x3_1 true ((rd_T47 l0 x3_1).f0) ((rd_T47 l0 x3_1).f1) ((rd_T47 l0 x3_1).f2) ((rd_T47 l0 x3_1).f3)))) else (if ((rd_T47 l0 x3_1).f1) = 2 then (spec_HistoryOK.j2 kj5 l0 x3_1 (decide ((((rd_T47 l0 x3_1).f3).size : Int) > 200)) ((rd_T47 l0 x3_1).f0) ((rd_T47 l0 x3_1).f1) ((rd_T47 l0 x3_1).f2) ((rd_T47 l0 x3_1).f3)) else (spec_HistoryOK.j2 kj5 l0 x3_1 (decide ((((rd_T47 l0 x3_1).f3).size : Int) > 200)) ((rd_T47 l0 x3_1).f0) ((rd_T47 l0 x3_1).f1) ((rd_T47 l0 x3_1).f2) ((rd_T47 l0 x3_1).f3)))) else (spec_HistoryOK.j2 kj5 l0 x3_1 true ((rd_T47 l0 x3_1).f0) ((rd_T47 l0 x3_1).f1) ((rd_T47 l0 x3_1).f2) ((rd_T47 l0 x3_1).f3))) else (spec_HistoryOK.j2 kj5 l0 x3_1 true ((rd_T47 l0 x3_1).f0) ((rd_T47 l0 x3_1).f1) ((rd_T47 l0 x3_1).f2) ((rd_T47 l0 x3_1).f3))) else (if ((rd_T47 l0 x3_1).f1) < 3 then ((spec_l07Key.f ((rd_T47 l0 x3_1).f2)).bind fun t137 => (if t137 = true then (if ((rd_T47 l0 x3_1).f1) = 2 then (spec_HistoryOK.j2 kj5 l0 x3_1 (decide ((((rd_T47 l0 x3_1).f3).size : Int) > 200)) ((rd_T47 l0 x3_1).f0) ((rd_T47 l0 x3_1).f1) ((rd_T47 l0 x3_1).f2) ((rd_T47 l0 x3_1).f3)) else (if ((rd_T47 l0 x3_1).f3).toList = ([] : List UInt8) then (spec_HistoryOK.j2 kj5 l0 x3_1 (decide ((((rd_T47 l0 x3_1).f3).size : Int) > 200)) ((rd_T47 l0 x3_1).f0) ((rd_T47 l0 x3_1).f1) ((rd_T47 l0 x3_1).f2) ((rd_T47 l0 x3_1).f3)) else (spec_HistoryOK.j2 kj5 l0 x3_1 true ((rd_T47 l0 x3_1).f0) ((rd_T47 l0 x3_1).f1) ((rd_T47 l0 x3_1).f2) ((rd_T47 l0 x3_1).f3)))) else (spec_HistoryOK.j2 kj5 l0 x3_1 true ((rd_T47 l0 x3_1).f0) ((rd_T47 l0 x3_1).f1) ((rd_T47 l0 x3_1).f2) ((rd_T47 l0 x3_1).f3)))) else (if ((rd_T47 l0 x3_1).f1) = 2 then (spec_HistoryOK.j2 kj5 l0 x3_1 (decide ((((rd_T47 l0 x3_1).f3).size : Int) > 200)) ((rd_T47 l0 x3_1).f0) ((rd_T47 l0 x3_1).f1) ((rd_T47 l0 x3_1).f2) ((rd_T47 l0 x3_1).f3)) else (if ((rd_T47 l0 x3_1).f3).toList = ([] : List UInt8) then (spec_HistoryOK.j2 kj5 l0 x3_1 (decide ((((rd_T47 l0 x3_1).f3).size : Int) > 200)) ((rd_T47 l0 x3_1).f0) ((rd_T47 l0 x3_1).f1) ((rd_T47 l0 x3_1).f2) ((rd_T47 l0 x3_1).f3)) else (spec_HistoryOK.j2 kj5 l0 x3_1 true ((rd_T47 l0 x3_1).f0) ((rd_T47 l0 x3_1).f1) ((rd_T47 l0 x3_1).f2) ((rd_T47 l0 x3_1).f3)))))) = some r := by rw [if_neg (show ¬ (false = true) by decide)] at H; exact H
          clear H
          have H := H1
          clear H1
          have HC15 := Aside0.mk H
          clear H
          go_upto_region 11 with (fail)
          go_cut [71] (fun v71 wc => ∃ (kq : Nat) (x71_14 : Bool), v71 = .bool x71_14 ∧ Aside0 (spec_HistoryOK.j2 kq l0 x3_1 x71_14 ((rd_T47 l0 x3_1).f0) ((rd_T47 l0 x3_1).f1) ((rd_T47 l0 x3_1).f2) ((rd_T47 l0 x3_1).f3) = some r) ∧ Aside0 (kq ≤ kj5) ∧ Aside0 (wc.heap[gb133]? = some (.cells #[.int .i64 ((rd_T47 l0 x3_1).f0), .int .i64 ((rd_T47 l0 x3_1).f1), .string ((rd_T47 l0 x3_1).f2), .string ((rd_T47 l0 x3_1).f3)] 47 (0, 0))) ∧ Aside0 (Below w.heap.size w wc))
          case first =>
           have H := HC15.out
           clear HC15
           by_cases c16 : ((rd_T47 l0 x3_1).f1) ≥ 3
           ·
            rw [if_pos c16] at H
            have c16b0 : decide (3 ≤ ((rd_T47 l0 x3_1).f1)) = true := decide_eq_true c16
            clear c16
            (first | rw [c16b0] | (simp only [i64_w, i32_w]; rw [c16b0]) | skip)
            by_cases c17 : ((rd_T47 l0 x3_1).f2).toList = ([] : List UInt8)
            ·
             rw [if_pos c17] at H
             have c17b0 : (((rd_T47 l0 x3_1).f2).toList == ([] : List UInt8)) = true := beq_iff_eq.mpr c17
             have c17b1 : (((rd_T47 l0 x3_1).f2).toList != ([] : List UInt8)) = false := bne_eq_false_iff_eq.mpr c17
             clear c17
             by_cases c18 : ((rd_T47 l0 x3_1).f3).toList = ([] : List UInt8)
             ·
              rw [if_pos c18] at H
              have c18b0 : (((rd_T47 l0 x3_1).f3).toList == ([] : List UInt8)) = true := beq_iff_eq.mpr c18
              have c18b1 : (((rd_T47 l0 x3_1).f3).toList != ([] : List UInt8)) = false := bne_eq_false_iff_eq.mpr c18
              clear c18
              by_cases c19 : ((rd_T47 l0 x3_1).f1) < 3
              ·
               rw [if_pos c19] at H
               have c19b0 : decide (((rd_T47 l0 x3_1).f1) < 3) = true := decide_eq_true c19
               clear c19
               replace H := Option.bind_eq_some_iff.mp H
               obtain ⟨t136, A200, H⟩ := H
               replace H : (if t136 = true then (if ((rd_T47 l0 x3_1).f1) = 2 then (spec_HistoryOK.j2 kj5 l0 x3_1 (decide ((((rd_T47 l0 x3_1).f3).size : Int) > 200)) ((rd_T47 l0 x3_1).f0) ((rd_T47 l0 x3_1).f1) ((rd_T47 l0 x3_1).f2) ((rd_T47 l0 x3_1).f3)) else (spec_HistoryOK.j2 kj5 l0 x3_1 (decide ((((rd_T47 l0 x3_1).f3).size : Int) > 200)) ((rd_T47 l0 x3_1).f0) ((rd_T47 l0 x3_1).f1) ((rd_T47 l0 x3_1).f2) ((rd_T47 l0 x3_1).f3))) else (spec_HistoryOK.j2 kj5 l0 x3_1 true ((rd_T47 l0 x3_1).f0) ((rd_T47 l0 x3_1).f1) ((rd_T47 l0 x3_1).f2) ((rd_T47 l0 x3_1).f3))) = some r := H
               have A20 := Aside0.mk A200
               clear A200
               by_cases c21 : t136 = true
               ·
                subst c21
                have H1 : (if ((rd_T47 l0 x3_1).f1) = 2 then (spec_HistoryOK.j2 kj5 l0 x3_1 (decide ((((rd_T47 l0 x3_1).f3).size : Int) > 200)) ((rd_T47 l0 x3_1).f0) ((rd_T47 l0 x3_1).f1) ((rd_T47 l0 x3_1).f2) ((rd_T47 l0 x3_1).f3)) else (spec_HistoryOK.j2 kj5 l0 x3_1 (decide ((((rd_T47 l0 x3_1).f3).size : Int) > 200)) ((rd_T47 l0 x3_1).f0) ((rd_T47 l0 x3_1).f1) ((rd_T47 l0 x3_1).f2) ((rd_T47 l0 x3_1).f3))) = some r := by rw [if_pos rfl] at H; exact H
                clear H
                have H := H1
                clear H1
                by_cases c22 : ((rd_T47 l0 x3_1).f1) = 2
                ·
                 rw [if_pos c22] at H
                 have c22b0 : (((rd_T47 l0 x3_1).f1) == 2) = true := beq_iff_eq.mpr c22
                 have c22b1 : (((rd_T47 l0 x3_1).f1) != 2) = false := bne_eq_false_iff_eq.mpr c22
                 clear c22
                 have H' := Aside0.mk H
                 clear H
                 have hcz23_0 : wc.cell? ⟨gb133, 0, none⟩ = some (.int .i64 ((rd_T47 l0 x3_1).f0)) := (blk_cell BK133.out 0).trans rfl
                 have hcz23_1 : wc.cell? ⟨gb133, 1, none⟩ = some (.int .i64 ((rd_T47 l0 x3_1).f1)) := (blk_cell BK133.out 1).trans rfl
                 have hcz23_2 : wc.cell? ⟨gb133, 2, none⟩ = some (.string ((rd_T47 l0 x3_1).f2)) := (blk_cell BK133.out 2).trans rfl
                 have hcz23_3 : wc.cell? ⟨gb133, 3, none⟩ = some (.string ((rd_T47 l0 x3_1).f3)) := (blk_cell BK133.out 3).trans rfl
                 have hfz23_0 := blk_frozen BK133.out 0
                 have hfz23_1 := blk_frozen BK133.out 1
                 have hfz23_2 := blk_frozen BK133.out 2
                 have hfz23_3 := blk_frozen BK133.out 3
                 go_wp2_with (first | (go_at_call 42; (with_reducible refine (spec_l07Key.calls ((rd_T47 l0 x3_1).f2) true _ A20.out).mono ?_); rintro e w' ⟨rfl, ⟨nd, rfl⟩⟩))
                 go_meet
                 case rel => exact ⟨_, (decide ((((rd_T47 l0 x3_1).f3).size : Int) > 200)), (by first | rfl | (simp; done) | (simp [*]; done)), H', ⟨by have := HK1.out; have := HJ5.out; first | omega | exact Nat.le_refl _⟩, ⟨by (with_reducible repeat (first | refine blk_drewN ?_ _ | refine blk_drew ?_ | refine blk_alloc ?_ _)); exact BK133.out⟩, ⟨by repeat (first | (with_reducible first | exact HB.out | apply below_alloc | apply pw_below_drewN | apply below_drew1 | refine below_set ?_ GE133.out) | exact HB.out)⟩⟩
                ·
                 rw [if_neg c22] at H
                 have c22b0 : (((rd_T47 l0 x3_1).f1) == 2) = false := beq_eq_false_iff_ne.mpr c22
                 have c22b1 : (((rd_T47 l0 x3_1).f1) != 2) = true := bne_iff_ne.mpr c22
                 have H' := Aside0.mk H
                 clear H
                 have hcz24_0 : wc.cell? ⟨gb133, 0, none⟩ = some (.int .i64 ((rd_T47 l0 x3_1).f0)) := (blk_cell BK133.out 0).trans rfl
                 have hcz24_1 : wc.cell? ⟨gb133, 1, none⟩ = some (.int .i64 ((rd_T47 l0 x3_1).f1)) := (blk_cell BK133.out 1).trans rfl
                 have hcz24_2 : wc.cell? ⟨gb133, 2, none⟩ = some (.string ((rd_T47 l0 x3_1).f2)) := (blk_cell BK133.out 2).trans rfl
                 have hcz24_3 : wc.cell? ⟨gb133, 3, none⟩ = some (.string ((rd_T47 l0 x3_1).f3)) := (blk_cell BK133.out 3).trans rfl
                 have hfz24_0 := blk_frozen BK133.out 0
                 have hfz24_1 := blk_frozen BK133.out 1
                 have hfz24_2 := blk_frozen BK133.out 2
                 have hfz24_3 := blk_frozen BK133.out 3
                 go_wp2_with (first | (go_at_call 42; (with_reducible refine (spec_l07Key.calls ((rd_T47 l0 x3_1).f2) true _ A20.out).mono ?_); rintro e w' ⟨rfl, ⟨nd, rfl⟩⟩))
                 go_meet
                 case rel => exact ⟨_, (decide ((((rd_T47 l0 x3_1).f3).size : Int) > 200)), (by first | rfl | (simp; done) | (simp [*]; done)), H', ⟨by have := HK1.out; have := HJ5.out; first | omega | exact Nat.le_refl _⟩, ⟨by (with_reducible repeat (first | refine blk_drewN ?_ _ | refine blk_drew ?_ | refine blk_alloc ?_ _)); exact BK133.out⟩, ⟨by repeat (first | (with_reducible first | exact HB.out | apply below_alloc | apply pw_below_drewN | apply below_drew1 | refine below_set ?_ GE133.out) | exact HB.out)⟩⟩
               ·
                replace c21 := Bool.eq_false_iff.mpr c21
                subst c21
                have H1 : (spec_HistoryOK.j2 kj5 l0 x3_1 true ((rd_T47 l0 x3_1).f0) ((rd_T47 l0 x3_1).f1) ((rd_T47 l0 x3_1).f2) ((rd_T47 l0 x3_1).f3)) = some r := by rw [if_neg (show ¬ (false = true) by decide)] at H; exact H
                clear H
                have H := H1
                clear H1
                have H' := Aside0.mk H
                clear H
                have hcz25_0 : wc.cell? ⟨gb133, 0, none⟩ = some (.int .i64 ((rd_T47 l0 x3_1).f0)) := (blk_cell BK133.out 0).trans rfl
                have hcz25_1 : wc.cell? ⟨gb133, 1, none⟩ = some (.int .i64 ((rd_T47 l0 x3_1).f1)) := (blk_cell BK133.out 1).trans rfl
                have hcz25_2 : wc.cell? ⟨gb133, 2, none⟩ = some (.string ((rd_T47 l0 x3_1).f2)) := (blk_cell BK133.out 2).trans rfl
                have hcz25_3 : wc.cell? ⟨gb133, 3, none⟩ = some (.string ((rd_T47 l0 x3_1).f3)) := (blk_cell BK133.out 3).trans rfl
                have hfz25_0 := blk_frozen BK133.out 0
                have hfz25_1 := blk_frozen BK133.out 1
                have hfz25_2 := blk_frozen BK133.out 2
                have hfz25_3 := blk_frozen BK133.out 3
                go_wp2_with (first | (go_at_call 42; (with_reducible refine (spec_l07Key.calls ((rd_T47 l0 x3_1).f2) false _ A20.out).mono ?_); rintro e w' ⟨rfl, ⟨nd, rfl⟩⟩))
                go_meet
                case rel => exact ⟨_, (true), (by first | rfl | (simp; done) | (simp [*]; done)), H', ⟨by have := HK1.out; have := HJ5.out; first | omega | exact Nat.le_refl _⟩, ⟨by (with_reducible repeat (first | refine blk_drewN ?_ _ | refine blk_drew ?_ | refine blk_alloc ?_ _)); exact BK133.out⟩, ⟨by repeat (first | (with_reducible first | exact HB.out | apply below_alloc | apply pw_below_drewN | apply below_drew1 | refine below_set ?_ GE133.out) | exact HB.out)⟩⟩
              ·
               rw [if_neg c19] at H
               have c19b0 : decide (((rd_T47 l0 x3_1).f1) < 3) = false := decide_eq_false c19
               clear c19
               by_cases c26 : ((rd_T47 l0 x3_1).f1) = 2
               ·
                rw [if_pos c26] at H
                have c26b0 : (((rd_T47 l0 x3_1).f1) == 2) = true := beq_iff_eq.mpr c26
                have c26b1 : (((rd_T47 l0 x3_1).f1) != 2) = false := bne_eq_false_iff_eq.mpr c26
                clear c26
                have H' := Aside0.mk H
                clear H
                have hcz27_0 : wc.cell? ⟨gb133, 0, none⟩ = some (.int .i64 ((rd_T47 l0 x3_1).f0)) := (blk_cell BK133.out 0).trans rfl
                have hcz27_1 : wc.cell? ⟨gb133, 1, none⟩ = some (.int .i64 ((rd_T47 l0 x3_1).f1)) := (blk_cell BK133.out 1).trans rfl
                have hcz27_2 : wc.cell? ⟨gb133, 2, none⟩ = some (.string ((rd_T47 l0 x3_1).f2)) := (blk_cell BK133.out 2).trans rfl
                have hcz27_3 : wc.cell? ⟨gb133, 3, none⟩ = some (.string ((rd_T47 l0 x3_1).f3)) := (blk_cell BK133.out 3).trans rfl
                have hfz27_0 := blk_frozen BK133.out 0
                have hfz27_1 := blk_frozen BK133.out 1
                have hfz27_2 := blk_frozen BK133.out 2
                have hfz27_3 := blk_frozen BK133.out 3
                go_wp2
                go_meet
                case rel => exact ⟨_, (decide ((((rd_T47 l0 x3_1).f3).size : Int) > 200)), (by first | rfl | (simp; done) | (simp [*]; done)), H', ⟨by have := HK1.out; have := HJ5.out; first | omega | exact Nat.le_refl _⟩, ⟨by (with_reducible repeat (first | refine blk_drewN ?_ _ | refine blk_drew ?_ | refine blk_alloc ?_ _)); exact BK133.out⟩, ⟨by repeat (first | (with_reducible first | exact HB.out | apply below_alloc | apply pw_below_drewN | apply below_drew1 | refine below_set ?_ GE133.out) | exact HB.out)⟩⟩
               ·
                rw [if_neg c26] at H
                have c26b0 : (((rd_T47 l0 x3_1).f1) == 2) = false := beq_eq_false_iff_ne.mpr c26
                have c26b1 : (((rd_T47 l0 x3_1).f1) != 2) = true := bne_iff_ne.mpr c26
                have H' := Aside0.mk H
                clear H
                have hcz28_0 : wc.cell? ⟨gb133, 0, none⟩ = some (.int .i64 ((rd_T47 l0 x3_1).f0)) := (blk_cell BK133.out 0).trans rfl
                have hcz28_1 : wc.cell? ⟨gb133, 1, none⟩ = some (.int .i64 ((rd_T47 l0 x3_1).f1)) := (blk_cell BK133.out 1).trans rfl
                have hcz28_2 : wc.cell? ⟨gb133, 2, none⟩ = some (.string ((rd_T47 l0 x3_1).f2)) := (blk_cell BK133.out 2).trans rfl
                have hcz28_3 : wc.cell? ⟨gb133, 3, none⟩ = some (.string ((rd_T47 l0 x3_1).f3)) := (blk_cell BK133.out 3).trans rfl
                have hfz28_0 := blk_frozen BK133.out 0
                have hfz28_1 := blk_frozen BK133.out 1
                have hfz28_2 := blk_frozen BK133.out 2
                have hfz28_3 := blk_frozen BK133.out 3
                go_wp2
                go_meet
                case rel => exact ⟨_, (decide ((((rd_T47 l0 x3_1).f3).size : Int) > 200)), (by first | rfl | (simp; done) | (simp [*]; done)), H', ⟨by have := HK1.out; have := HJ5.out; first | omega | exact Nat.le_refl _⟩, ⟨by (with_reducible repeat (first | refine blk_drewN ?_ _ | refine blk_drew ?_ | refine blk_alloc ?_ _)); exact BK133.out⟩, ⟨by repeat (first | (with_reducible first | exact HB.out | apply below_alloc | apply pw_below_drewN | apply below_drew1 | refine below_set ?_ GE133.out) | exact HB.out)⟩⟩
             ·
              rw [if_neg c18] at H
              have c18b0 : (((rd_T47 l0 x3_1).f3).toList == ([] : List UInt8)) = false := beq_eq_false_iff_ne.mpr c18
              have c18b1 : (((rd_T47 l0 x3_1).f3).toList != ([] : List UInt8)) = true := bne_iff_ne.mpr c18
              have H' := Aside0.mk H
              clear H
              have hcz29_0 : wc.cell? ⟨gb133, 0, none⟩ = some (.int .i64 ((rd_T47 l0 x3_1).f0)) := (blk_cell BK133.out 0).trans rfl
              have hcz29_1 : wc.cell? ⟨gb133, 1, none⟩ = some (.int .i64 ((rd_T47 l0 x3_1).f1)) := (blk_cell BK133.out 1).trans rfl
              have hcz29_2 : wc.cell? ⟨gb133, 2, none⟩ = some (.string ((rd_T47 l0 x3_1).f2)) := (blk_cell BK133.out 2).trans rfl
              have hcz29_3 : wc.cell? ⟨gb133, 3, none⟩ = some (.string ((rd_T47 l0 x3_1).f3)) := (blk_cell BK133.out 3).trans rfl
              have hfz29_0 := blk_frozen BK133.out 0
              have hfz29_1 := blk_frozen BK133.out 1
              have hfz29_2 := blk_frozen BK133.out 2
              have hfz29_3 := blk_frozen BK133.out 3
              go_wp2
              go_meet
              case rel => exact ⟨_, (true), (by first | rfl | (simp; done) | (simp [*]; done)), H', ⟨by have := HK1.out; have := HJ5.out; first | omega | exact Nat.le_refl _⟩, ⟨by (with_reducible repeat (first | refine blk_drewN ?_ _ | refine blk_drew ?_ | refine blk_alloc ?_ _)); exact BK133.out⟩, ⟨by repeat (first | (with_reducible first | exact HB.out | apply below_alloc | apply pw_below_drewN | apply below_drew1 | refine below_set ?_ GE133.out) | exact HB.out)⟩⟩
            ·
             rw [if_neg c17] at H
             have c17b0 : (((rd_T47 l0 x3_1).f2).toList == ([] : List UInt8)) = false := beq_eq_false_iff_ne.mpr c17
             have c17b1 : (((rd_T47 l0 x3_1).f2).toList != ([] : List UInt8)) = true := bne_iff_ne.mpr c17
             have H' := Aside0.mk H
             clear H
             have hcz30_0 : wc.cell? ⟨gb133, 0, none⟩ = some (.int .i64 ((rd_T47 l0 x3_1).f0)) := (blk_cell BK133.out 0).trans rfl
             have hcz30_1 : wc.cell? ⟨gb133, 1, none⟩ = some (.int .i64 ((rd_T47 l0 x3_1).f1)) := (blk_cell BK133.out 1).trans rfl
             have hcz30_2 : wc.cell? ⟨gb133, 2, none⟩ = some (.string ((rd_T47 l0 x3_1).f2)) := (blk_cell BK133.out 2).trans rfl
             have hcz30_3 : wc.cell? ⟨gb133, 3, none⟩ = some (.string ((rd_T47 l0 x3_1).f3)) := (blk_cell BK133.out 3).trans rfl
             have hfz30_0 := blk_frozen BK133.out 0
             have hfz30_1 := blk_frozen BK133.out 1
             have hfz30_2 := blk_frozen BK133.out 2
             have hfz30_3 := blk_frozen BK133.out 3
             go_wp2
             go_meet
             case rel => exact ⟨_, (true), (by first | rfl | (simp; done) | (simp [*]; done)), H', ⟨by have := HK1.out; have := HJ5.out; first | omega | exact Nat.le_refl _⟩, ⟨by (with_reducible repeat (first | refine blk_drewN ?_ _ | refine blk_drew ?_ | refine blk_alloc ?_ _)); exact BK133.out⟩, ⟨by repeat (first | (with_reducible first | exact HB.out | apply below_alloc | apply pw_below_drewN | apply below_drew1 | refine below_set ?_ GE133.out) | exact HB.out)⟩⟩
           ·
            rw [if_neg c16] at H
            have c16b0 : decide (3 ≤ ((rd_T47 l0 x3_1).f1)) = false := decide_eq_false c16
            clear c16
            (first | rw [c16b0] | (simp only [i64_w, i32_w]; rw [c16b0]) | skip)
            by_cases c31 : ((rd_T47 l0 x3_1).f1) < 3
            ·
             rw [if_pos c31] at H
             have c31b0 : decide (((rd_T47 l0 x3_1).f1) < 3) = true := decide_eq_true c31
             clear c31
             replace H := Option.bind_eq_some_iff.mp H
             obtain ⟨t137, A320, H⟩ := H
             replace H : (if t137 = true then (if ((rd_T47 l0 x3_1).f1) = 2 then (spec_HistoryOK.j2 kj5 l0 x3_1 (decide ((((rd_T47 l0 x3_1).f3).size : Int) > 200)) ((rd_T47 l0 x3_1).f0) ((rd_T47 l0 x3_1).f1) ((rd_T47 l0 x3_1).f2) ((rd_T47 l0 x3_1).f3)) else (if ((rd_T47 l0 x3_1).f3).toList = ([] : List UInt8) then (spec_HistoryOK.j2 kj5 l0 x3_1 (decide ((((rd_T47 l0 x3_1).f3).size : Int) > 200)) ((rd_T47 l0 x3_1).f0) ((rd_T47 l0 x3_1).f1) ((rd_T47 l0 x3_1).f2) ((rd_T47 l0 x3_1).f3)) else (spec_HistoryOK.j2 kj5 l0 x3_1 true ((rd_T47 l0 x3_1).f0) ((rd_T47 l0 x3_1).f1) ((rd_T47 l0 x3_1).f2) ((rd_T47 l0 x3_1).f3)))) else (spec_HistoryOK.j2 kj5 l0 x3_1 true ((rd_T47 l0 x3_1).f0) ((rd_T47 l0 x3_1).f1) ((rd_T47 l0 x3_1).f2) ((rd_T47 l0 x3_1).f3))) = some r := H
             have A32 := Aside0.mk A320
             clear A320
             by_cases c33 : t137 = true
             ·
              subst c33
              have H1 : (if ((rd_T47 l0 x3_1).f1) = 2 then (spec_HistoryOK.j2 kj5 l0 x3_1 (decide ((((rd_T47 l0 x3_1).f3).size : Int) > 200)) ((rd_T47 l0 x3_1).f0) ((rd_T47 l0 x3_1).f1) ((rd_T47 l0 x3_1).f2) ((rd_T47 l0 x3_1).f3)) else (if ((rd_T47 l0 x3_1).f3).toList = ([] : List UInt8) then (spec_HistoryOK.j2 kj5 l0 x3_1 (decide ((((rd_T47 l0 x3_1).f3).size : Int) > 200)) ((rd_T47 l0 x3_1).f0) ((rd_T47 l0 x3_1).f1) ((rd_T47 l0 x3_1).f2) ((rd_T47 l0 x3_1).f3)) else (spec_HistoryOK.j2 kj5 l0 x3_1 true ((rd_T47 l0 x3_1).f0) ((rd_T47 l0 x3_1).f1) ((rd_T47 l0 x3_1).f2) ((rd_T47 l0 x3_1).f3)))) = some r := by rw [if_pos rfl] at H; exact H
              clear H
              have H := H1
              clear H1
              by_cases c34 : ((rd_T47 l0 x3_1).f1) = 2
              ·
               rw [if_pos c34] at H
               have c34b0 : (((rd_T47 l0 x3_1).f1) == 2) = true := beq_iff_eq.mpr c34
               have c34b1 : (((rd_T47 l0 x3_1).f1) != 2) = false := bne_eq_false_iff_eq.mpr c34
               clear c34
               have H' := Aside0.mk H
               clear H
               have hcz35_0 : wc.cell? ⟨gb133, 0, none⟩ = some (.int .i64 ((rd_T47 l0 x3_1).f0)) := (blk_cell BK133.out 0).trans rfl
               have hcz35_1 : wc.cell? ⟨gb133, 1, none⟩ = some (.int .i64 ((rd_T47 l0 x3_1).f1)) := (blk_cell BK133.out 1).trans rfl
               have hcz35_2 : wc.cell? ⟨gb133, 2, none⟩ = some (.string ((rd_T47 l0 x3_1).f2)) := (blk_cell BK133.out 2).trans rfl
               have hcz35_3 : wc.cell? ⟨gb133, 3, none⟩ = some (.string ((rd_T47 l0 x3_1).f3)) := (blk_cell BK133.out 3).trans rfl
               have hfz35_0 := blk_frozen BK133.out 0
               have hfz35_1 := blk_frozen BK133.out 1
               have hfz35_2 := blk_frozen BK133.out 2
               have hfz35_3 := blk_frozen BK133.out 3
               go_wp2_with (first | (go_at_call 42; (with_reducible refine (spec_l07Key.calls ((rd_T47 l0 x3_1).f2) true _ A32.out).mono ?_); rintro e w' ⟨rfl, ⟨nd, rfl⟩⟩))
               go_meet
               case rel => exact ⟨_, (decide ((((rd_T47 l0 x3_1).f3).size : Int) > 200)), (by first | rfl | (simp; done) | (simp [*]; done)), H', ⟨by have := HK1.out; have := HJ5.out; first | omega | exact Nat.le_refl _⟩, ⟨by (with_reducible repeat (first | refine blk_drewN ?_ _ | refine blk_drew ?_ | refine blk_alloc ?_ _)); exact BK133.out⟩, ⟨by repeat (first | (with_reducible first | exact HB.out | apply below_alloc | apply pw_below_drewN | apply below_drew1 | refine below_set ?_ GE133.out) | exact HB.out)⟩⟩
              ·
               rw [if_neg c34] at H
               have c34b0 : (((rd_T47 l0 x3_1).f1) == 2) = false := beq_eq_false_iff_ne.mpr c34
               have c34b1 : (((rd_T47 l0 x3_1).f1) != 2) = true := bne_iff_ne.mpr c34
               by_cases c36 : ((rd_T47 l0 x3_1).f3).toList = ([] : List UInt8)
               ·
                rw [if_pos c36] at H
                have c36b0 : (((rd_T47 l0 x3_1).f3).toList == ([] : List UInt8)) = true := beq_iff_eq.mpr c36
                have c36b1 : (((rd_T47 l0 x3_1).f3).toList != ([] : List UInt8)) = false := bne_eq_false_iff_eq.mpr c36
                clear c36
                have H' := Aside0.mk H
                clear H
                have hcz37_0 : wc.cell? ⟨gb133, 0, none⟩ = some (.int .i64 ((rd_T47 l0 x3_1).f0)) := (blk_cell BK133.out 0).trans rfl
                have hcz37_1 : wc.cell? ⟨gb133, 1, none⟩ = some (.int .i64 ((rd_T47 l0 x3_1).f1)) := (blk_cell BK133.out 1).trans rfl
                have hcz37_2 : wc.cell? ⟨gb133, 2, none⟩ = some (.string ((rd_T47 l0 x3_1).f2)) := (blk_cell BK133.out 2).trans rfl
                have hcz37_3 : wc.cell? ⟨gb133, 3, none⟩ = some (.string ((rd_T47 l0 x3_1).f3)) := (blk_cell BK133.out 3).trans rfl
                have hfz37_0 := blk_frozen BK133.out 0
                have hfz37_1 := blk_frozen BK133.out 1
                have hfz37_2 := blk_frozen BK133.out 2
                have hfz37_3 := blk_frozen BK133.out 3
                go_wp2_with (first | (go_at_call 42; (with_reducible refine (spec_l07Key.calls ((rd_T47 l0 x3_1).f2) true _ A32.out).mono ?_); rintro e w' ⟨rfl, ⟨nd, rfl⟩⟩))
                go_meet
                case rel => exact ⟨_, (decide ((((rd_T47 l0 x3_1).f3).size : Int) > 200)), (by first | rfl | (simp; done) | (simp [*]; done)), H', ⟨by have := HK1.out; have := HJ5.out; first | omega | exact Nat.le_refl _⟩, ⟨by (with_reducible repeat (first | refine blk_drewN ?_ _ | refine blk_drew ?_ | refine blk_alloc ?_ _)); exact BK133.out⟩, ⟨by repeat (first | (with_reducible first | exact HB.out | apply below_alloc | apply pw_below_drewN | apply below_drew1 | refine below_set ?_ GE133.out) | exact HB.out)⟩⟩
               ·
                rw [if_neg c36] at H
                have c36b0 : (((rd_T47 l0 x3_1).f3).toList == ([] : List UInt8)) = false := beq_eq_false_iff_ne.mpr c36
                have c36b1 : (((rd_T47 l0 x3_1).f3).toList != ([] : List UInt8)) = true := bne_iff_ne.mpr c36
                have H' := Aside0.mk H
                clear H
                have hcz38_0 : wc.cell? ⟨gb133, 0, none⟩ = some (.int .i64 ((rd_T47 l0 x3_1).f0)) := (blk_cell BK133.out 0).trans rfl
                have hcz38_1 : wc.cell? ⟨gb133, 1, none⟩ = some (.int .i64 ((rd_T47 l0 x3_1).f1)) := (blk_cell BK133.out 1).trans rfl
                have hcz38_2 : wc.cell? ⟨gb133, 2, none⟩ = some (.string ((rd_T47 l0 x3_1).f2)) := (blk_cell BK133.out 2).trans rfl
                have hcz38_3 : wc.cell? ⟨gb133, 3, none⟩ = some (.string ((rd_T47 l0 x3_1).f3)) := (blk_cell BK133.out 3).trans rfl
                have hfz38_0 := blk_frozen BK133.out 0
                have hfz38_1 := blk_frozen BK133.out 1
                have hfz38_2 := blk_frozen BK133.out 2
                have hfz38_3 := blk_frozen BK133.out 3
                go_wp2_with (first | (go_at_call 42; (with_reducible refine (spec_l07Key.calls ((rd_T47 l0 x3_1).f2) true _ A32.out).mono ?_); rintro e w' ⟨rfl, ⟨nd, rfl⟩⟩))
                go_meet
                case rel => exact ⟨_, (true), (by first | rfl | (simp; done) | (simp [*]; done)), H', ⟨by have := HK1.out; have := HJ5.out; first | omega | exact Nat.le_refl _⟩, ⟨by (with_reducible repeat (first | refine blk_drewN ?_ _ | refine blk_drew ?_ | refine blk_alloc ?_ _)); exact BK133.out⟩, ⟨by repeat (first | (with_reducible first | exact HB.out | apply below_alloc | apply pw_below_drewN | apply below_drew1 | refine below_set ?_ GE133.out) | exact HB.out)⟩⟩
             ·
              replace c33 := Bool.eq_false_iff.mpr c33
              subst c33
              have H1 : (spec_HistoryOK.j2 kj5 l0 x3_1 true ((rd_T47 l0 x3_1).f0) ((rd_T47 l0 x3_1).f1) ((rd_T47 l0 x3_1).f2) ((rd_T47 l0 x3_1).f3)) = some r := by rw [if_neg (show ¬ (false = true) by decide)] at H; exact H
              clear H
              have H := H1
              clear H1
              have H' := Aside0.mk H
              clear H
              have hcz39_0 : wc.cell? ⟨gb133, 0, none⟩ = some (.int .i64 ((rd_T47 l0 x3_1).f0)) := (blk_cell BK133.out 0).trans rfl
              have hcz39_1 : wc.cell? ⟨gb133, 1, none⟩ = some (.int .i64 ((rd_T47 l0 x3_1).f1)) := (blk_cell BK133.out 1).trans rfl
              have hcz39_2 : wc.cell? ⟨gb133, 2, none⟩ = some (.string ((rd_T47 l0 x3_1).f2)) := (blk_cell BK133.out 2).trans rfl
              have hcz39_3 : wc.cell? ⟨gb133, 3, none⟩ = some (.string ((rd_T47 l0 x3_1).f3)) := (blk_cell BK133.out 3).trans rfl
              have hfz39_0 := blk_frozen BK133.out 0
              have hfz39_1 := blk_frozen BK133.out 1
              have hfz39_2 := blk_frozen BK133.out 2
              have hfz39_3 := blk_frozen BK133.out 3
              go_wp2_with (first | (go_at_call 42; (with_reducible refine (spec_l07Key.calls ((rd_T47 l0 x3_1).f2) false _ A32.out).mono ?_); rintro e w' ⟨rfl, ⟨nd, rfl⟩⟩))
              go_meet
              case rel => exact ⟨_, (true), (by first | rfl | (simp; done) | (simp [*]; done)), H', ⟨by have := HK1.out; have := HJ5.out; first | omega | exact Nat.le_refl _⟩, ⟨by (with_reducible repeat (first | refine blk_drewN ?_ _ | refine blk_drew ?_ | refine blk_alloc ?_ _)); exact BK133.out⟩, ⟨by repeat (first | (with_reducible first | exact HB.out | apply below_alloc | apply pw_below_drewN | apply below_drew1 | refine below_set ?_ GE133.out) | exact HB.out)⟩⟩
            ·
             rw [if_neg c31] at H
             have c31b0 : decide (((rd_T47 l0 x3_1).f1) < 3) = false := decide_eq_false c31
             clear c31
             by_cases c40 : ((rd_T47 l0 x3_1).f1) = 2
             ·
              rw [if_pos c40] at H
              have c40b0 : (((rd_T47 l0 x3_1).f1) == 2) = true := beq_iff_eq.mpr c40
              have c40b1 : (((rd_T47 l0 x3_1).f1) != 2) = false := bne_eq_false_iff_eq.mpr c40
              clear c40
              have H' := Aside0.mk H
              clear H
              have hcz41_0 : wc.cell? ⟨gb133, 0, none⟩ = some (.int .i64 ((rd_T47 l0 x3_1).f0)) := (blk_cell BK133.out 0).trans rfl
              have hcz41_1 : wc.cell? ⟨gb133, 1, none⟩ = some (.int .i64 ((rd_T47 l0 x3_1).f1)) := (blk_cell BK133.out 1).trans rfl
              have hcz41_2 : wc.cell? ⟨gb133, 2, none⟩ = some (.string ((rd_T47 l0 x3_1).f2)) := (blk_cell BK133.out 2).trans rfl
              have hcz41_3 : wc.cell? ⟨gb133, 3, none⟩ = some (.string ((rd_T47 l0 x3_1).f3)) := (blk_cell BK133.out 3).trans rfl
              have hfz41_0 := blk_frozen BK133.out 0
              have hfz41_1 := blk_frozen BK133.out 1
              have hfz41_2 := blk_frozen BK133.out 2
              have hfz41_3 := blk_frozen BK133.out 3
              go_wp2
              go_meet
              case rel => exact ⟨_, (decide ((((rd_T47 l0 x3_1).f3).size : Int) > 200)), (by first | rfl | (simp; done) | (simp [*]; done)), H', ⟨by have := HK1.out; have := HJ5.out; first | omega | exact Nat.le_refl _⟩, ⟨by (with_reducible repeat (first | refine blk_drewN ?_ _ | refine blk_drew ?_ | refine blk_alloc ?_ _)); exact BK133.out⟩, ⟨by repeat (first | (with_reducible first | exact HB.out | apply below_alloc | apply pw_below_drewN | apply below_drew1 | refine below_set ?_ GE133.out) | exact HB.out)⟩⟩
             ·
              rw [if_neg c40] at H
              have c40b0 : (((rd_T47 l0 x3_1).f1) == 2) = false := beq_eq_false_iff_ne.mpr c40
              have c40b1 : (((rd_T47 l0 x3_1).f1) != 2) = true := bne_iff_ne.mpr c40
              by_cases c42 : ((rd_T47 l0 x3_1).f3).toList = ([] : List UInt8)
              ·
               rw [if_pos c42] at H
               have c42b0 : (((rd_T47 l0 x3_1).f3).toList == ([] : List UInt8)) = true := beq_iff_eq.mpr c42
               have c42b1 : (((rd_T47 l0 x3_1).f3).toList != ([] : List UInt8)) = false := bne_eq_false_iff_eq.mpr c42
               clear c42
               have H' := Aside0.mk H
               clear H
               have hcz43_0 : wc.cell? ⟨gb133, 0, none⟩ = some (.int .i64 ((rd_T47 l0 x3_1).f0)) := (blk_cell BK133.out 0).trans rfl
               have hcz43_1 : wc.cell? ⟨gb133, 1, none⟩ = some (.int .i64 ((rd_T47 l0 x3_1).f1)) := (blk_cell BK133.out 1).trans rfl
               have hcz43_2 : wc.cell? ⟨gb133, 2, none⟩ = some (.string ((rd_T47 l0 x3_1).f2)) := (blk_cell BK133.out 2).trans rfl
               have hcz43_3 : wc.cell? ⟨gb133, 3, none⟩ = some (.string ((rd_T47 l0 x3_1).f3)) := (blk_cell BK133.out 3).trans rfl
               have hfz43_0 := blk_frozen BK133.out 0
               have hfz43_1 := blk_frozen BK133.out 1
               have hfz43_2 := blk_frozen BK133.out 2
               have hfz43_3 := blk_frozen BK133.out 3
               go_wp2
               go_meet
               case rel => exact ⟨_, (decide ((((rd_T47 l0 x3_1).f3).size : Int) > 200)), (by first | rfl | (simp; done) | (simp [*]; done)), H', ⟨by have := HK1.out; have := HJ5.out; first | omega | exact Nat.le_refl _⟩, ⟨by (with_reducible repeat (first | refine blk_drewN ?_ _ | refine blk_drew ?_ | refine blk_alloc ?_ _)); exact BK133.out⟩, ⟨by repeat (first | (with_reducible first | exact HB.out | apply below_alloc | apply pw_below_drewN | apply below_drew1 | refine below_set ?_ GE133.out) | exact HB.out)⟩⟩
              ·
               rw [if_neg c42] at H
               have c42b0 : (((rd_T47 l0 x3_1).f3).toList == ([] : List UInt8)) = false := beq_eq_false_iff_ne.mpr c42
               have c42b1 : (((rd_T47 l0 x3_1).f3).toList != ([] : List UInt8)) = true := bne_iff_ne.mpr c42
               have H' := Aside0.mk H
               clear H
               have hcz44_0 : wc.cell? ⟨gb133, 0, none⟩ = some (.int .i64 ((rd_T47 l0 x3_1).f0)) := (blk_cell BK133.out 0).trans rfl
               have hcz44_1 : wc.cell? ⟨gb133, 1, none⟩ = some (.int .i64 ((rd_T47 l0 x3_1).f1)) := (blk_cell BK133.out 1).trans rfl
               have hcz44_2 : wc.cell? ⟨gb133, 2, none⟩ = some (.string ((rd_T47 l0 x3_1).f2)) := (blk_cell BK133.out 2).trans rfl
               have hcz44_3 : wc.cell? ⟨gb133, 3, none⟩ = some (.string ((rd_T47 l0 x3_1).f3)) := (blk_cell BK133.out 3).trans rfl
               have hfz44_0 := blk_frozen BK133.out 0
               have hfz44_1 := blk_frozen BK133.out 1
               have hfz44_2 := blk_frozen BK133.out 2
               have hfz44_3 := blk_frozen BK133.out 3
               go_wp2
               go_meet
               case rel => exact ⟨_, (true), (by first | rfl | (simp; done) | (simp [*]; done)), H', ⟨by have := HK1.out; have := HJ5.out; first | omega | exact Nat.le_refl _⟩, ⟨by (with_reducible repeat (first | refine blk_drewN ?_ _ | refine blk_drew ?_ | refine blk_alloc ?_ _)); exact BK133.out⟩, ⟨by repeat (first | (with_reducible first | exact HB.out | apply below_alloc | apply pw_below_drewN | apply below_drew1 | refine below_set ?_ GE133.out) | exact HB.out)⟩⟩
          case rest =>
           clear HC15
           (try clear c1); (try clear p1); (try clear q1); (try clear hx1); (try clear c2); (try clear c2b0); (try clear c2b1); (try clear p2); (try clear c3); (try clear c3b0); (try clear c3b1); (try clear c4); (try clear c4b0); (try clear c5); (try clear c5b0); (try clear c10); (try clear p13); (try clear q13); (try clear hx13); (try clear c14); (try clear c16); (try clear c16b0); (try clear c17); (try clear c17b0); (try clear c17b1); (try clear c18); (try clear c18b0); (try clear c18b1); (try clear c19); (try clear c19b0); (try clear c21); (try clear c22); (try clear c22b0); (try clear c22b1); (try clear c23); (try clear c26); (try clear c26b0); (try clear c26b1); (try clear c31); (try clear c31b0); (try clear c33); (try clear c34); (try clear c34b0); (try clear c34b1); (try clear c36); (try clear c36b0); (try clear c36b1); (try clear c40); (try clear c40b0); (try clear c40b1); (try clear c41); (try clear c42); (try clear c42b0); (try clear c42b1); (try clear hcz12_0); (try clear hcz12_1); (try clear hcz12_2); (try clear hcz12_3); (try clear hcz13_0); (try clear hcz13_1)
           (try clear hcz13_2); (try clear hcz13_3); (try clear hcz23_0); (try clear hcz23_1); (try clear hcz23_2); (try clear hcz23_3); (try clear hcz24_0); (try clear hcz24_1); (try clear hcz24_2); (try clear hcz24_3); (try clear hcz25_0); (try clear hcz25_1); (try clear hcz25_2); (try clear hcz25_3); (try clear hcz27_0); (try clear hcz27_1); (try clear hcz27_2); (try clear hcz27_3); (try clear hcz28_0); (try clear hcz28_1); (try clear hcz28_2); (try clear hcz28_3); (try clear hcz29_0); (try clear hcz29_1); (try clear hcz29_2); (try clear hcz29_3); (try clear hcz30_0); (try clear hcz30_1); (try clear hcz30_2); (try clear hcz30_3); (try clear hcz35_0); (try clear hcz35_1); (try clear hcz35_2); (try clear hcz35_3); (try clear hcz37_0); (try clear hcz37_1); (try clear hcz37_2); (try clear hcz37_3); (try clear hcz38_0); (try clear hcz38_1); (try clear hcz38_2); (try clear hcz38_3); (try clear hcz39_0); (try clear hcz39_1); (try clear hcz39_2); (try clear hcz39_3); (try clear hcz41_0); (try clear hcz41_1); (try clear hcz41_2); (try clear hcz41_3); (try clear hcz43_0); (try clear hcz43_1); (try clear hcz43_2); (try clear hcz43_3); (try clear hcz44_0); (try clear hcz44_1); (try clear hcz44_2); (try clear hcz44_3); (try clear hcz8_0); (try clear hcz8_1)
           (try clear hcz8_2); (try clear hcz8_3); (try clear hfz12_0); (try clear hfz12_1); (try clear hfz12_2); (try clear hfz12_3); (try clear hfz13_0); (try clear hfz13_1); (try clear hfz13_2); (try clear hfz13_3); (try clear hfz23_0); (try clear hfz23_1); (try clear hfz23_2); (try clear hfz23_3); (try clear hfz24_0); (try clear hfz24_1); (try clear hfz24_2); (try clear hfz24_3); (try clear hfz25_0); (try clear hfz25_1); (try clear hfz25_2); (try clear hfz25_3); (try clear hfz27_0); (try clear hfz27_1); (try clear hfz27_2); (try clear hfz27_3); (try clear hfz28_0); (try clear hfz28_1); (try clear hfz28_2); (try clear hfz28_3); (try clear hfz29_0); (try clear hfz29_1); (try clear hfz29_2); (try clear hfz29_3); (try clear hfz30_0); (try clear hfz30_1); (try clear hfz30_2); (try clear hfz30_3); (try clear hfz35_0); (try clear hfz35_1); (try clear hfz35_2); (try clear hfz35_3); (try clear hfz37_0); (try clear hfz37_1); (try clear hfz37_2); (try clear hfz37_3); (try clear hfz38_0); (try clear hfz38_1); (try clear hfz38_2); (try clear hfz38_3); (try clear hfz39_0); (try clear hfz39_1); (try clear hfz39_2); (try clear hfz39_3); (try clear hfz41_0); (try clear hfz41_1); (try clear hfz41_2); (try clear hfz41_3); (try clear hfz43_0); (try clear hfz43_1)
           (try clear hfz43_2); (try clear hfz43_3); (try clear hfz44_0); (try clear hfz44_1); (try clear hfz44_2); (try clear hfz44_3); (try clear hfz8_0); (try clear hfz8_1); (try clear hfz8_2); (try clear hfz8_3); (try clear hx132_0); (try clear hx132_1); (try clear hx132_2); (try clear hx132_3); (try clear p1); (try clear p13); (try clear p132); (try clear p2); (try clear q1); (try clear q13); (try clear q132)
           obtain ⟨kq, x71_14, rfl, HA, HJ14, BK133, HB⟩ := hcut
           cases kq with
           | zero => exact absurd HA.out (by simp [spec_HistoryOK.j2])
           | succ kj14 =>
            have H := HA.out
            clear HA
            simp only [spec_HistoryOK.j2] at H
            by_cases c45 : x71_14 = true
            ·
             subst c45
             have H1 : (some false) = some r := by rw [if_pos rfl] at H; exact H
             clear H
             have H := H1
             clear H1
             obtain rfl := Option.some.inj H
             go_wp2
             go_ret
             exact ⟨by first | rfl | (simp [errW_none, errW_some] <;> rfl) | (simp [*, errW_none, errW_some] <;> rfl), by repeat (first | (with_reducible first | exact HB.out | apply below_alloc | apply pw_below_drewN | apply below_drew1 | refine below_set ?_ GE133.out) | exact HB.out)⟩
            ·
             replace c45 := Bool.eq_false_iff.mpr c45
             subst c45
             have H1 : ((spec_l08Done.f kj14 l0 ((rd_T47 l0 x3_1).f0)).bind fun t138 => (if t138 < 0 then (some false) else (if t138 < x3_1 then (some false) else (spec_HistoryOK.l0 kj14 l0 (wrap64 (x3_1 + 1)))))) = some r := by rw [if_neg (show ¬ (false = true) by decide)] at H; exact H
             clear H
             have H := H1
             clear H1
             replace H := Option.bind_eq_some_iff.mp H
             obtain ⟨t138, A460, H⟩ := H
             replace H : (if t138 < 0 then (some false) else (if t138 < x3_1 then (some false) else (spec_HistoryOK.l0 kj14 l0 (wrap64 (x3_1 + 1))))) = some r := H
             have A46 := Aside0.mk A460
             clear A460
             by_cases c47 : t138 < 0
             ·
              rw [if_pos c47] at H
              have c47b0 : decide (t138 < 0) = true := decide_eq_true c47
              clear c47
              obtain rfl := Option.some.inj H
              have hcz48_0 : wc.cell? ⟨gb133, 0, none⟩ = some (.int .i64 ((rd_T47 l0 x3_1).f0)) := (blk_cell BK133.out 0).trans rfl
              have hcz48_1 : wc.cell? ⟨gb133, 1, none⟩ = some (.int .i64 ((rd_T47 l0 x3_1).f1)) := (blk_cell BK133.out 1).trans rfl
              have hcz48_2 : wc.cell? ⟨gb133, 2, none⟩ = some (.string ((rd_T47 l0 x3_1).f2)) := (blk_cell BK133.out 2).trans rfl
              have hcz48_3 : wc.cell? ⟨gb133, 3, none⟩ = some (.string ((rd_T47 l0 x3_1).f3)) := (blk_cell BK133.out 3).trans rfl
              have hfz48_0 := blk_frozen BK133.out 0
              have hfz48_1 := blk_frozen BK133.out 1
              have hfz48_2 := blk_frozen BK133.out 2
              have hfz48_3 := blk_frozen BK133.out 3
              go_wp2_with (first | ((with_reducible refine gate_callee (f := 43) rfl ?_); refine goesL_ (some 75) rfl rfl Try.func43 (by kernel_rfl) rfl #[.slice (some ad132) l0.length c0, .int .i64 ((rd_T47 l0 x3_1).f0)] rfl (by (try simp only [List.map_toArray, List.map_cons, List.map_nil]); try rfl) ?_; (with_reducible refine (spec_l08Done.calls kj14 _ _ l0 ((rd_T47 l0 x3_1).f0) t138 _ ?side1 ?side2 A46.out).mono ?_); (case side1 => repeat (first | exact (Kd.C_below HR0.out HB.out) | with_reducible refine Kd.C_alloc ?_ _ | with_reducible refine Kd.C_drewN ?_ _ | with_reducible refine Kd.C_drew ?_)); (case side2 => exact HC0.out); rintro e w' ⟨rfl, ⟨nd, rfl⟩⟩; refine ⟨_, rfl, ?_⟩))
              go_ret
              exact ⟨by first | rfl | (simp [errW_none, errW_some] <;> rfl) | (simp [*, errW_none, errW_some] <;> rfl), by repeat (first | (with_reducible first | exact HB.out | apply below_alloc | apply pw_below_drewN | apply below_drew1 | refine below_set ?_ GE133.out) | exact HB.out)⟩
             ·
              rw [if_neg c47] at H
              have c47b0 : decide (t138 < 0) = false := decide_eq_false c47
              clear c47
              by_cases c49 : t138 < x3_1
              ·
               rw [if_pos c49] at H
               have c49b0 : decide (t138 < x3_1) = true := decide_eq_true c49
               clear c49
               obtain rfl := Option.some.inj H
               have hcz50_0 : wc.cell? ⟨gb133, 0, none⟩ = some (.int .i64 ((rd_T47 l0 x3_1).f0)) := (blk_cell BK133.out 0).trans rfl
               have hcz50_1 : wc.cell? ⟨gb133, 1, none⟩ = some (.int .i64 ((rd_T47 l0 x3_1).f1)) := (blk_cell BK133.out 1).trans rfl
               have hcz50_2 : wc.cell? ⟨gb133, 2, none⟩ = some (.string ((rd_T47 l0 x3_1).f2)) := (blk_cell BK133.out 2).trans rfl
               have hcz50_3 : wc.cell? ⟨gb133, 3, none⟩ = some (.string ((rd_T47 l0 x3_1).f3)) := (blk_cell BK133.out 3).trans rfl
               have hfz50_0 := blk_frozen BK133.out 0
               have hfz50_1 := blk_frozen BK133.out 1
               have hfz50_2 := blk_frozen BK133.out 2
               have hfz50_3 := blk_frozen BK133.out 3
               go_wp2_with (first | ((with_reducible refine gate_callee (f := 43) rfl ?_); refine goesL_ (some 75) rfl rfl Try.func43 (by kernel_rfl) rfl #[.slice (some ad132) l0.length c0, .int .i64 ((rd_T47 l0 x3_1).f0)] rfl (by (try simp only [List.map_toArray, List.map_cons, List.map_nil]); try rfl) ?_; (with_reducible refine (spec_l08Done.calls kj14 _ _ l0 ((rd_T47 l0 x3_1).f0) t138 _ ?side1 ?side2 A46.out).mono ?_); (case side1 => repeat (first | exact (Kd.C_below HR0.out HB.out) | with_reducible refine Kd.C_alloc ?_ _ | with_reducible refine Kd.C_drewN ?_ _ | with_reducible refine Kd.C_drew ?_)); (case side2 => exact HC0.out); rintro e w' ⟨rfl, ⟨nd, rfl⟩⟩; refine ⟨_, rfl, ?_⟩))
               go_ret
               exact ⟨by first | rfl | (simp [errW_none, errW_some] <;> rfl) | (simp [*, errW_none, errW_some] <;> rfl), by repeat (first | (with_reducible first | exact HB.out | apply below_alloc | apply pw_below_drewN | apply below_drew1 | refine below_set ?_ GE133.out) | exact HB.out)⟩
              ·
               rw [if_neg c49] at H
               have c49b0 : decide (t138 < x3_1) = false := decide_eq_false c49
               clear c49
               have H' := Aside0.mk H
               clear H
               have hcz51_0 : wc.cell? ⟨gb133, 0, none⟩ = some (.int .i64 ((rd_T47 l0 x3_1).f0)) := (blk_cell BK133.out 0).trans rfl
               have hcz51_1 : wc.cell? ⟨gb133, 1, none⟩ = some (.int .i64 ((rd_T47 l0 x3_1).f1)) := (blk_cell BK133.out 1).trans rfl
               have hcz51_2 : wc.cell? ⟨gb133, 2, none⟩ = some (.string ((rd_T47 l0 x3_1).f2)) := (blk_cell BK133.out 2).trans rfl
               have hcz51_3 : wc.cell? ⟨gb133, 3, none⟩ = some (.string ((rd_T47 l0 x3_1).f3)) := (blk_cell BK133.out 3).trans rfl
               have hfz51_0 := blk_frozen BK133.out 0
               have hfz51_1 := blk_frozen BK133.out 1
               have hfz51_2 := blk_frozen BK133.out 2
               have hfz51_3 := blk_frozen BK133.out 3
               go_wp2_with (first | ((with_reducible refine gate_callee (f := 43) rfl ?_); refine goesL_ (some 75) rfl rfl Try.func43 (by kernel_rfl) rfl #[.slice (some ad132) l0.length c0, .int .i64 ((rd_T47 l0 x3_1).f0)] rfl (by (try simp only [List.map_toArray, List.map_cons, List.map_nil]); try rfl) ?_; (with_reducible refine (spec_l08Done.calls kj14 _ _ l0 ((rd_T47 l0 x3_1).f0) t138 _ ?side1 ?side2 A46.out).mono ?_); (case side1 => repeat (first | exact (Kd.C_below HR0.out HB.out) | with_reducible refine Kd.C_alloc ?_ _ | with_reducible refine Kd.C_drewN ?_ _ | with_reducible refine Kd.C_drew ?_)); (case side2 => exact HC0.out); rintro e w' ⟨rfl, ⟨nd, rfl⟩⟩; refine ⟨_, rfl, ?_⟩))
               go_roundg kj14
               case measure => have := HK1.out; have := HJ5.out; have := HJ14.out; omega
               case rel => exact ⟨(wrap64 (x3_1 + 1)), (by first | rfl | (simp; done) | (simp [*]; done)), H', ⟨by have := HK1.out; have := HJ5.out; have := HJ14.out; omega⟩, ⟨by repeat (first | (with_reducible first | exact HB.out | apply below_alloc | apply pw_below_drewN | apply below_drew1 | refine below_set ?_ GE133.out) | exact HB.out)⟩⟩
      ·
       rw [if_neg c5] at H
       exact absurd H (by simp)
     ·
      rw [if_neg c4] at H
      have c4b0 : decide (x3_1 < (l0.length : Int)) = false := decide_eq_false c4
      clear c4
      obtain rfl := Option.some.inj H
      go_wp2
      go_ret
      exact ⟨by first | rfl | (simp [errW_none, errW_some] <;> rfl) | (simp [*, errW_none, errW_some] <;> rfl), by repeat (first | (with_reducible first | exact HB.out | apply below_alloc | apply pw_below_drewN | apply below_drew1) | exact HB.out)⟩

/-! ### spec_l08Committed: function 44 -/
def spec_l08Committed.l0 : Nat → List (S47) → List Int → Int → Option (List Int)
 | 0, _, _, _ => none
 | k + 1, x0, x3, x4 => if x4 < 6 then ((spec_l08Done.f k x0 x4).bind fun t142 => (if t142 ≥ 0 then (if 0 ≤ t142 then (if t142 < (x0.length : Int) then (if ((rd_T47 x0 t142).f1) = 3 then (if x3.length < 17592186044416 then (spec_l08Committed.l0 k x0 (x3 ++ [x4]) (wrap64 (x4 + 1))) else (none)) else (spec_l08Committed.l0 k x0 x3 (wrap64 (x4 + 1)))) else (none)) else (none)) else (spec_l08Committed.l0 k x0 x3 (wrap64 (x4 + 1))))) else (some x3)
def spec_l08Committed.f (k : Nat) (l0 : List (S47)) : Option (List Int) := spec_l08Committed.l0 k l0 (([] : List Int)) 0
theorem spec_l08Committed.mono_l : ∀ k, (∀ y0 y1 y2, LeO (spec_l08Committed.l0 k y0 y1 y2) (spec_l08Committed.l0 (k + 1) y0 y1 y2))
 | 0 => fun _ _ _ r h => by simp [spec_l08Committed.l0] at h
 | k + 1 => by
  have ih0 := spec_l08Committed.mono_l k
  ·
   intro y0 y1 y2
   unfold spec_l08Committed.l0
   repeat' first
   | (with_reducible exact ih0 _ _ _)
   | (with_reducible exact spec_l08Done.mono _ _ _)
   | (with_reducible exact LeO.refl _)
   | (with_reducible exact LeO.none _)
   | (with_reducible refine LeO.ite ?_ ?_)
   | (with_reducible refine LeO.bind ?_ (fun _ => ?_))
   | exact ih0 _ _ _
   | exact spec_l08Done.mono _ _ _
   | exact LeO.none _
   | refine LeO.ite ?_ ?_
   | refine LeO.bind ?_ (fun _ => ?_)
theorem spec_l08Committed.mono : ∀ a0 k, LeO (spec_l08Committed.f k a0) (spec_l08Committed.f (k + 1) a0) := by
 intro a0 k
 have ih0 := spec_l08Committed.mono_l k
 unfold spec_l08Committed.f
 repeat' first
   | (with_reducible exact ih0 _ _ _)
   | (with_reducible exact spec_l08Done.mono _ _ _)
   | (with_reducible exact LeO.refl _)
   | (with_reducible exact LeO.none _)
   | (with_reducible refine LeO.ite ?_ ?_)
   | (with_reducible refine LeO.bind ?_ (fun _ => ?_))
   | exact ih0 _ _ _
   | exact spec_l08Done.mono _ _ _
   | exact LeO.none _
   | refine LeO.ite ?_ ?_
   | refine LeO.bind ?_ (fun _ => ?_)
set_option maxHeartbeats 8000000 in
set_option maxRecDepth 100000 in
theorem spec_l08Committed.calls (k : Nat) (A0 : Option Addr) (c0 : Nat) (l0 : List (S47)) (r : List Int) (w : World) (hr0 : Kd.C k47 w A0 l0.length l0) (hc0 : l0.length ≤ c0) (h : spec_l08Committed.f k l0 = some r) :
  Calls Try.prog 44 #[.slice A0 l0.length c0] w fun e w' => ∃ v0_ : Value, e = .returned (v0_) ∧ Kd.R (Kd.int .i64) 3 w' w.heap.size (fun _ => True) v0_ r ∧ Below w.heap.size w w' := by
 have HR0 := Aside0.mk hr0
 have HC0 := Aside0.mk hc0
 clear hr0 hc0
 have HB := Aside0.mk (Below.refl w.heap.size w)
 have H : (spec_l08Committed.l0 k l0 (([] : List Int)) 0) = some r := h
 clear h
 obtain ⟨y139, hy139⟩ : ∃ y_ : List Int, y_ = (([] : List Int)) := ⟨_, rfl⟩
 replace H : (spec_l08Committed.l0 k l0 y139 0) = some r := by first | (rw [hy139]; with_reducible exact H) | (have H2_ := (Option.bind_some _ _).symm.trans H; rw [hy139]; with_reducible exact H2_) | (have H2_ := (Option.bind_some _ _).symm.trans H; with_reducible exact H2_) | with_reducible exact H | (rw [hy139]; exact H) | exact H
 have Ny139 := Aside0.mk hy139
 clear hy139
 have H' := Aside0.mk H
 clear H
 go_enter Try.func44, Try.ntmps44
 go_wp2_with (first | ((with_reducible refine gate_dst (N := 6) rfl ?_); refine Kd.R_lit (Kd.int .i64) _ 3 ?hg (N := 6) ?hd (xs := ([] : List Int)) (inner := []) (ok := fun _ => True) (okp := fun _ => True) ?hr ?hp (fun _ hk => hk) trivial (Below.refl _ _) (Nat.le_refl _) (by simp) ?_; (case hd => rfl); (case hg => rfl); (case hr => first | (go_simp; done) | (go_simp; rfl)); (case hp => exact (Reps.none _ _)); intro v140 w2 ho3 hb hg_ hnew_; clear hg_ hnew_; (first | rw [← Ny139.out] at ho3 | (simp only [Int.reduceToNat] at ho3; rw [← Ny139.out] at ho3)); have n0_ := Aside0.mk (Kd.R_lower ho3 (below_size (by repeat (first | exact HB.out | apply below_alloc | apply pw_below_drewN | apply below_drew1)))); have n1_ := Aside0.mk (below_step (by repeat (first | exact HB.out | apply below_alloc | apply pw_below_drewN | apply below_drew1)) hb); clear HB; have HO141 := n0_; have HB := n1_; clear n0_ n1_; clear hb ho3))
 go_loopg [3, 4] k (fun kq v3 v4 w' => ∃ (x3_1 : List Int) (x4_1 : Int), v4 = .int .i64 x4_1 ∧ Aside0 (spec_l08Committed.l0 kq l0 x3_1 x4_1 = some r) ∧ Aside0 (kq ≤ k) ∧ Aside0 (Kd.R (Kd.int .i64) 3 w' w.heap.size (fun _ => True) v3 x3_1) ∧ Aside0 (Below w.heap.size w w'))
 case atStart => exact ⟨(y139), (0), (by first | rfl | (simp; done) | (simp [*]; done)), H', ⟨Nat.le_refl _⟩, ⟨by (with_reducible repeat (first | apply Kd.R_alloc | apply Kd.R_drewN | apply Kd.R_drew)); exact HO141.out⟩, ⟨by repeat (first | (with_reducible first | exact HB.out | apply below_alloc | apply pw_below_drewN | apply below_drew1) | exact HB.out)⟩⟩
 case round =>
  clear H'
  (try clear p2)
  obtain ⟨x3_1, x4_1, rfl, HA, HK1, HO_3, HB⟩ := hrel
  cases gk with
  | zero => exact absurd HA.out (by simp [spec_l08Committed.l0])
  | succ k1 =>
   have H := HA.out
   clear HA
   simp only [spec_l08Committed.l0] at H
   by_cases c4 : x4_1 < 6
   ·
    rw [if_pos c4] at H
    have c4b0 : decide (x4_1 < 6) = true := decide_eq_true c4
    have c4b0h := c4b0
    (try simp only [ByteArray.size_append] at c4b0h)
    clear c4
    replace H := Option.bind_eq_some_iff.mp H
    obtain ⟨t142, A50, H⟩ := H
    replace H : (if t142 ≥ 0 then (if 0 ≤ t142 then (if t142 < (l0.length : Int) then (if ((rd_T47 l0 t142).f1) = 3 then (if x3_1.length < 17592186044416 then (spec_l08Committed.l0 k1 l0 (x3_1 ++ [x4_1]) (wrap64 (x4_1 + 1))) else (none)) else (spec_l08Committed.l0 k1 l0 x3_1 (wrap64 (x4_1 + 1)))) else (none)) else (none)) else (spec_l08Committed.l0 k1 l0 x3_1 (wrap64 (x4_1 + 1)))) = some r := H
    have A5 := Aside0.mk A50
    clear A50
    by_cases c6 : t142 ≥ 0
    ·
     rw [if_pos c6] at H
     have c6b0 : decide (0 ≤ t142) = true := decide_eq_true c6
     have c6b0h := c6b0
     (try simp only [ByteArray.size_append] at c6b0h)
     clear c6
     by_cases c7 : 0 ≤ t142
     ·
      rw [if_pos c7] at H
      have c7b0 : decide (0 ≤ t142) = true := decide_eq_true c7
      have c7b0h := c7b0
      (try simp only [ByteArray.size_append] at c7b0h)
      clear c7
      by_cases c8 : t142 < (l0.length : Int)
      ·
       rw [if_pos c8] at H
       have c8b0 : decide (t142 < (l0.length : Int)) = true := decide_eq_true c8
       have c8b0h := c8b0
       (try simp only [ByteArray.size_append] at c8b0h)
       clear c8
       by_cases c9 : ((rd_T47 l0 t142).f1) = 3
       ·
        rw [if_pos c9] at H
        have c9b0 : (((rd_T47 l0 t142).f1) == 3) = true := beq_iff_eq.mpr c9
        have c9b0h := c9b0
        (try simp only [ByteArray.size_append] at c9b0h)
        have c9b1 : (((rd_T47 l0 t142).f1) != 3) = false := bne_eq_false_iff_eq.mpr c9
        have c9b1h := c9b1
        (try simp only [ByteArray.size_append] at c9b1h)
        clear c9
        by_cases c10 : x3_1.length < 17592186044416
        ·
         rw [if_pos c10] at H
         have LMc10 := Aside0.mk c10
         clear c10
         obtain ⟨y144, hy144⟩ : ∃ y_ : List Int, y_ = (x3_1 ++ [x4_1]) := ⟨_, rfl⟩
         replace H : (spec_l08Committed.l0 k1 l0 y144 (wrap64 (x4_1 + 1))) = some r := by first | (rw [hy144]; with_reducible exact H) | (have H2_ := (Option.bind_some _ _).symm.trans H; rw [hy144]; with_reducible exact H2_) | (have H2_ := (Option.bind_some _ _).symm.trans H; with_reducible exact H2_) | with_reducible exact H | (rw [hy144]; exact H) | exact H
         have Ny144 := Aside0.mk hy144
         clear hy144
         have H' := Aside0.mk H
         clear H
         go_wp2_with (first | ((with_reducible refine gate_callee (f := 43) rfl ?_); refine goesL_ (some 13) rfl rfl Try.func43 (by kernel_rfl) rfl #[.slice A0 l0.length c0, .int .i64 x4_1] rfl (by (try simp only [List.map_toArray, List.map_cons, List.map_nil]); try rfl) ?_; (with_reducible refine (spec_l08Done.calls k1 _ _ l0 x4_1 t142 _ ?side1 ?side2 A5.out).mono ?_); (case side1 => repeat (first | exact (Kd.C_below HR0.out HB.out) | with_reducible refine Kd.C_alloc ?_ _ | with_reducible refine Kd.C_drewN ?_ _ | with_reducible refine Kd.C_drew ?_)); (case side2 => exact HC0.out); rintro e w' ⟨rfl, ⟨nd, rfl⟩⟩; refine ⟨_, rfl, ?_⟩; have p143 : 0 ≤ (t142 : Int) := of_decide_eq_true (by with_reducible assumption); have q143 : t142 < (l0.length : Int) := of_decide_eq_true (by with_reducible assumption); obtain ⟨ad143, e143, hx143_0, hx143_1, hx143_2, hx143_3⟩ := at_T47 HR0.out t142 p143 q143; cases e143; replace hx143_0 := (HB.out.cell (World.block_lt_of_cell? w _ hx143_0)).trans hx143_0; replace hx143_1 := (HB.out.cell (World.block_lt_of_cell? w _ hx143_1)).trans hx143_1; replace hx143_2 := (HB.out.cell (World.block_lt_of_cell? w _ hx143_2)).trans hx143_2; replace hx143_3 := (HB.out.cell (World.block_lt_of_cell? w _ hx143_3)).trans hx143_3; replace p143 := eq_true p143; replace q143 := eq_true q143) | ((with_reducible refine gate_builtin (b := .append) (xs := #[.tmp 24, .tmp 26]) rfl ?_); at_builtin; refine Kd.R_append (Kd.int .i64) (w0 := w) w.heap.size rfl (.tmp 24) (.tmp 26) 50 3 (.int .i64 0) 8 rfl Try.underlying50 info3 rfl (by decide) (by omega) u3 x3_1 x4_1 [.int .i64 x4_1] (fun _ => True) (fun _ => False) rfl rfl ?aP (fun _ hk => hk.elim) ?aF ?aO ?aB ?aS ?aL ?_; (case aP => exact rfl); (case aB => exact (by repeat (first | exact HB.out | apply below_alloc | apply pw_below_drewN | apply below_drew1))); (case aF => exact (fun _ _ => trivial)); (case aO => exact (by (with_reducible repeat (first | apply Kd.R_alloc | apply Kd.R_drewN | apply Kd.R_drew)); exact HO_3.out)); (case aS => exact (below_size (by repeat (first | exact HB.out | apply below_alloc | apply pw_below_drewN | apply below_drew1)))); (case aL => have := LMc10.out; omega); intro v145 w11 ho hb hg hat; rw [← Ny144.out] at ho; have n0_ := Aside0.mk (hb); have n1_ := Aside0.mk (ho); clear HB; clear HO_3; have HB := n0_; have HO146 := n1_; clear n0_ n1_; clear ho hb hg hat))
         go_roundg k1
         case measure => have := HK1.out; omega
         case rel => exact ⟨(y144), (wrap64 (x4_1 + 1)), (by first | rfl | (simp; done) | (simp [*]; done)), H', ⟨by have := HK1.out; omega⟩, ⟨by (with_reducible repeat (first | apply Kd.R_alloc | apply Kd.R_drewN | apply Kd.R_drew)); exact HO146.out⟩, ⟨by repeat (first | (with_reducible first | exact HB.out | apply below_alloc | apply pw_below_drewN | apply below_drew1) | exact HB.out)⟩⟩
        ·
         rw [if_neg c10] at H
         exact absurd H (by simp)
       ·
        rw [if_neg c9] at H
        have c9b0 : (((rd_T47 l0 t142).f1) == 3) = false := beq_eq_false_iff_ne.mpr c9
        have c9b0h := c9b0
        (try simp only [ByteArray.size_append] at c9b0h)
        have c9b1 : (((rd_T47 l0 t142).f1) != 3) = true := bne_iff_ne.mpr c9
        have c9b1h := c9b1
        (try simp only [ByteArray.size_append] at c9b1h)
        have H' := Aside0.mk H
        clear H
        go_wp2_with (first | ((with_reducible refine gate_callee (f := 43) rfl ?_); refine goesL_ (some 13) rfl rfl Try.func43 (by kernel_rfl) rfl #[.slice A0 l0.length c0, .int .i64 x4_1] rfl (by (try simp only [List.map_toArray, List.map_cons, List.map_nil]); try rfl) ?_; (with_reducible refine (spec_l08Done.calls k1 _ _ l0 x4_1 t142 _ ?side1 ?side2 A5.out).mono ?_); (case side1 => repeat (first | exact (Kd.C_below HR0.out HB.out) | with_reducible refine Kd.C_alloc ?_ _ | with_reducible refine Kd.C_drewN ?_ _ | with_reducible refine Kd.C_drew ?_)); (case side2 => exact HC0.out); rintro e w' ⟨rfl, ⟨nd, rfl⟩⟩; refine ⟨_, rfl, ?_⟩; have p143 : 0 ≤ (t142 : Int) := of_decide_eq_true (by with_reducible assumption); have q143 : t142 < (l0.length : Int) := of_decide_eq_true (by with_reducible assumption); obtain ⟨ad143, e143, hx143_0, hx143_1, hx143_2, hx143_3⟩ := at_T47 HR0.out t142 p143 q143; cases e143; replace hx143_0 := (HB.out.cell (World.block_lt_of_cell? w _ hx143_0)).trans hx143_0; replace hx143_1 := (HB.out.cell (World.block_lt_of_cell? w _ hx143_1)).trans hx143_1; replace hx143_2 := (HB.out.cell (World.block_lt_of_cell? w _ hx143_2)).trans hx143_2; replace hx143_3 := (HB.out.cell (World.block_lt_of_cell? w _ hx143_3)).trans hx143_3; replace p143 := eq_true p143; replace q143 := eq_true q143))
        go_roundg k1
        case measure => have := HK1.out; omega
        case rel => exact ⟨(x3_1), (wrap64 (x4_1 + 1)), (by first | rfl | (simp; done) | (simp [*]; done)), H', ⟨by have := HK1.out; omega⟩, ⟨by (with_reducible repeat (first | apply Kd.R_alloc | apply Kd.R_drewN | apply Kd.R_drew)); exact HO_3.out⟩, ⟨by repeat (first | (with_reducible first | exact HB.out | apply below_alloc | apply pw_below_drewN | apply below_drew1) | exact HB.out)⟩⟩
      ·
       rw [if_neg c8] at H
       exact absurd H (by simp)
     ·
      rw [if_neg c7] at H
      exact absurd H (by simp)
    ·
     rw [if_neg c6] at H
     have c6b0 : decide (0 ≤ t142) = false := decide_eq_false c6
     have c6b0h := c6b0
     (try simp only [ByteArray.size_append] at c6b0h)
     clear c6
     have H' := Aside0.mk H
     clear H
     go_wp2_with (first | ((with_reducible refine gate_callee (f := 43) rfl ?_); refine goesL_ (some 13) rfl rfl Try.func43 (by kernel_rfl) rfl #[.slice A0 l0.length c0, .int .i64 x4_1] rfl (by (try simp only [List.map_toArray, List.map_cons, List.map_nil]); try rfl) ?_; (with_reducible refine (spec_l08Done.calls k1 _ _ l0 x4_1 t142 _ ?side1 ?side2 A5.out).mono ?_); (case side1 => repeat (first | exact (Kd.C_below HR0.out HB.out) | with_reducible refine Kd.C_alloc ?_ _ | with_reducible refine Kd.C_drewN ?_ _ | with_reducible refine Kd.C_drew ?_)); (case side2 => exact HC0.out); rintro e w' ⟨rfl, ⟨nd, rfl⟩⟩; refine ⟨_, rfl, ?_⟩))
     go_roundg k1
     case measure => have := HK1.out; omega
     case rel => exact ⟨(x3_1), (wrap64 (x4_1 + 1)), (by first | rfl | (simp; done) | (simp [*]; done)), H', ⟨by have := HK1.out; omega⟩, ⟨by (with_reducible repeat (first | apply Kd.R_alloc | apply Kd.R_drewN | apply Kd.R_drew)); exact HO_3.out⟩, ⟨by repeat (first | (with_reducible first | exact HB.out | apply below_alloc | apply pw_below_drewN | apply below_drew1) | exact HB.out)⟩⟩
   ·
    rw [if_neg c4] at H
    have c4b0 : decide (x4_1 < 6) = false := decide_eq_false c4
    have c4b0h := c4b0
    (try simp only [ByteArray.size_append] at c4b0h)
    clear c4
    obtain rfl := Option.some.inj H
    go_wp2
    go_ret
    exact ⟨_, by first | rfl | (simp [errW_none, errW_some] <;> rfl) | (simp [*, errW_none, errW_some] <;> rfl), by (with_reducible repeat (first | apply Kd.R_alloc | apply Kd.R_drewN | apply Kd.R_drew)); exact HO_3.out, by repeat (first | (with_reducible first | exact HB.out | apply below_alloc | apply pw_below_drewN | apply below_drew1) | exact HB.out)⟩

end Go.Proofs.Ytopajfpfjfbjcaa.XP
