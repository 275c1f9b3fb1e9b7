-- Written for this claim: a contract of one function, proved by hand; the places of its template filled by a program.
import Derived.Test.YtlhmcdafnlcioaaXV0
import Derived.Test.YtlhmcdafnlcioaaXV4
import Derived.Lib.Walk
import Derived.Shelf.Abstract
import Derived.Test.YtlhmcdafnlcioaaWGuard
namespace Go.Proofs.Ytlhmcdafnlcioaa.XV
open Go Go.RowKit Go.Proofs.YtlhmcdafnlcioaaW.PrintWords Go.Proofs.YtlhmcdafnlcioaaW.PrintLast Go.Proofs.YtlhmcdafnlcioaaW.PrintMore
set_option linter.unusedVariables false
set_option linter.unusedSimpArgs false
open Go.Proofs.Ytlhmcdafnlcioaa.Xtra
attribute [local go_sem] Go.Proofs.Ytlhmcdafnlcioaa.Xtra.binOp_gtr Go.Proofs.Ytlhmcdafnlcioaa.Xtra.binOp_leq Go.Proofs.Ytlhmcdafnlcioaa.Xtra.binOp_geq
def spec_l07Tx.key (s : ByteArray) : Bool := (spec_l07Key.f s).getD false
theorem spec_l07Tx.key_some (s : ByteArray) : spec_l07Key.f s = some (spec_l07Tx.key s) := by
  unfold spec_l07Tx.key spec_l07Key.f
  split <;> rfl
def spec_l07Tx.in_ (x lo hi : Int) : Bool := (spec_l01In.f x lo hi).getD false
theorem spec_l07Tx.in_some (x lo hi : Int) : spec_l01In.f x lo hi = some (spec_l07Tx.in_ x lo hi) := by
  unfold spec_l07Tx.in_ spec_l01In.f
  split <;> rfl
/-- One write is right, where it stands. -/
def spec_l07Tx.wr (l : List S180) (i : Nat) : Bool :=
  spec_l07Tx.key (rd_T180 l (i : Int)).f0 && !decide ((200 : Int) < ((rd_T180 l (i : Int)).f1.size : Int)) && (!(rd_T180 l (i : Int)).f2 || ((rd_T180 l (i : Int)).f1.toList == [])) && (!decide (0 < i) || Op.bytesLess (rd_T180 l ((i : Int) - 1)).f0.toList (rd_T180 l (i : Int)).f0.toList)
def spec_l07Tx.f (a0_0 : Bool) (a0_1 : Int) (l0_2 : List S180) (a1 : Int) : Option Bool :=
  some (if a0_0 = true then spec_l07Tx.in_ a0_1 0 a1 && !decide ((8 : Int) < (l0_2.length : Int)) && (List.range l0_2.length).all (spec_l07Tx.wr l0_2) else (a0_1 == 0) && ((l0_2.length : Int) == 0))
theorem spec_l07Tx.all_miss (l : List S180) (kk : Nat) (h : kk < l.length) (hb : spec_l07Tx.wr l kk = false) : (List.range l.length).all (spec_l07Tx.wr l) = false := by
  rw [List.all_eq_false]
  exact ⟨kk, by simpa using h, by simpa using hb⟩
theorem spec_l07Tx.all_hit (l : List S180) (h : ∀ j, j < l.length → spec_l07Tx.wr l j = true) : (List.range l.length).all (spec_l07Tx.wr l) = true := by
  rw [List.all_eq_true]
  exact fun j hj => h j (by simpa using hj)
set_option maxHeartbeats 4000000 in
set_option maxRecDepth 100000 in
theorem spec_l07Tx.calls (a0_0 : Bool) (a0_1 : Int) (A0_2 : Option Addr) (c0_2 : Nat) (l0_2 : List S180) (a1 : Int) (r : Bool) (w : World) (hr0_2 : Kd.C k180 w A0_2 l0_2.length l0_2) (hc0_2 : l0_2.length ≤ c0_2) (h : spec_l07Tx.f a0_0 a0_1 l0_2 a1 = some r) :
    Calls Try.prog 80 #[.agg #[.bool a0_0, .int .i64 a0_1, .slice A0_2 l0_2.length c0_2], .int .i64 a1] w fun e w' => e = .returned (.bool r) ∧ Below w.heap.size w w' := by
  have hu := Try.underlying112
  have huw := Try.underlying180
  obtain rfl := Option.some.inj h
  clear h
  have hm : l0_2.length ≤ 9223372036854775807 := hr0_2.2.1
  have HR := Aside0.mk hr0_2
  clear hr0_2
  have B0 := Aside0.mk (below_alloc (Below.refl w.heap.size w) (.cells #[.bool a0_0, .int .i64 a0_1, .slice A0_2 l0_2.length c0_2] 112 (0, 0)))
  cases a0_0 with
  | false =>
    by_cases z : a0_1 = 0
    · subst z
      go_enter Try.func80, Try.ntmps80
      go_wp2
      go_ret
      exact ⟨by simp, B0.out⟩
    · have zb : (a0_1 == 0) = false := beq_eq_false_iff_ne.2 z
      clear z
      go_enter Try.func80, Try.ntmps80
      go_wp2
      go_ret
      exact ⟨by simp [zb], B0.out⟩
  | true =>
    rw [if_pos rfl]
    have hi := spec_l07Tx.in_some a0_1 0 a1
    generalize spec_l07Tx.in_ a0_1 0 a1 = b1 at hi ⊢
    have HI := Aside0.mk hi
    clear hi
    cases b1 with
    | false =>
      go_enter Try.func80, Try.ntmps80
      go_wp2_with (go_at_call 78; (with_reducible refine (spec_l01In.calls a0_1 0 a1 false _ HI.out).mono ?_); rintro e w' ⟨rfl, ⟨nd, rfl⟩⟩)
      go_ret
      exact ⟨rfl, pw_below_drewN B0.out _⟩
    | true =>
      by_cases h8 : (8 : Int) < (l0_2.length : Int)
      · have h8b : decide ((8 : Int) < (l0_2.length : Int)) = true := decide_eq_true h8
        clear h8
        go_enter Try.func80, Try.ntmps80
        go_wp2_with (go_at_call 78; (with_reducible refine (spec_l01In.calls a0_1 0 a1 true _ HI.out).mono ?_); rintro e w' ⟨rfl, ⟨nd, rfl⟩⟩)
        go_ret
        exact ⟨by simp [h8b], pw_below_drewN B0.out _⟩
      · have h8b : decide ((8 : Int) < (l0_2.length : Int)) = false := decide_eq_false h8
        have hlen : l0_2.length ≤ 8 := by omega
        clear h8
        have BK0 := Aside0.mk (blk_new w (.cells #[.bool true, .int .i64 a0_1, .slice A0_2 l0_2.length c0_2] 112 (0, 0)))
        go_enter Try.func80, Try.ntmps80
        go_wp2_with (go_at_call 78; (with_reducible refine (spec_l01In.calls a0_1 0 a1 true _ HI.out).mono ?_); rintro e w' ⟨rfl, ⟨nd, rfl⟩⟩)
        obtain ⟨g, hgg⟩ : ∃ g, g = w.heap.size := ⟨_, rfl⟩
        have hge : w.heap.size ≤ g := by omega
        rw [← hgg] at BK0 ⊢
        clear hgg
        go_loopg [5] l0_2.length (fun gg s5 wr => ∃ kk : Nat, kk ≤ l0_2.length ∧ l0_2.length - kk ≤ gg ∧ s5 = .int .i64 kk ∧ Aside0 (wr.heap[g]? = some (.cells #[.bool true, .int .i64 a0_1, .slice A0_2 l0_2.length c0_2] 112 (0, 0))) ∧ Aside0 (Below w.heap.size w wr) ∧ Aside0 (∀ j, j < kk → spec_l07Tx.wr l0_2 j = true))
        case atStart => exact ⟨0, Nat.zero_le _, by omega, rfl, ⟨blk_drewN BK0.out _⟩, ⟨pw_below_drewN B0.out _⟩, ⟨fun j hj => absurd hj (Nat.not_lt_zero _)⟩⟩
        case round =>
          obtain ⟨kk, hkk, hg, rfl, BK, D, B⟩ := hrel
          have hcz0 : wr.cell? ⟨g, 0, none⟩ = some (.bool true) := (blk_cell BK.out 0).trans rfl
          have hcz1 : wr.cell? ⟨g, 1, none⟩ = some (.int .i64 a0_1) := (blk_cell BK.out 1).trans rfl
          have hcz2 : wr.cell? ⟨g, 2, none⟩ = some (.slice A0_2 l0_2.length c0_2) := (blk_cell BK.out 2).trans rfl
          by_cases hlt : kk < l0_2.length
          · have hltz : (kk : Int) < (l0_2.length : Int) := by omega
            have hltb : decide ((kk : Int) < (l0_2.length : Int)) = true := decide_eq_true hltz
            obtain ⟨ad, e2, hx0, hx1, hx2⟩ := at_T180 (Kd.C_below HR.out D.out) (kk : Int) (by omega) hltz
            cases e2
            rw [Int.toNat_natCast] at hx0 hx1 hx2
            have hp : kk = 0 ∨ (0 < kk ∧ ∃ y, rd_T180 l0_2 ((kk : Int) - 1) = y ∧ wr.cell? (ad.add ((kk - 1) * 3)) = some (.string y.f0)) := by
              rcases Nat.eq_zero_or_pos kk with e | e
              · exact .inl e
              · refine .inr ⟨e, _, rfl, ?_⟩
                obtain ⟨ad2, e2, hy0, hy1, hy2⟩ := at_T180 (Kd.C_below HR.out D.out) ((kk : Int) - 1) (by omega) (by omega)
                obtain rfl := Option.some.inj e2
                rw [show ((kk : Int) - 1).toNat = kk - 1 by omega] at hy0
                exact hy0
            have hwr : spec_l07Tx.wr l0_2 kk = (spec_l07Tx.key (rd_T180 l0_2 (kk : Int)).f0 && !decide ((200 : Int) < ((rd_T180 l0_2 (kk : Int)).f1.size : Int)) && (!(rd_T180 l0_2 (kk : Int)).f2 || ((rd_T180 l0_2 (kk : Int)).f1.toList == [])) && (!decide (0 < kk) || Op.bytesLess (rd_T180 l0_2 ((kk : Int) - 1)).f0.toList (rd_T180 l0_2 (kk : Int)).f0.toList)) := rfl
            obtain ⟨x, hx⟩ : ∃ x, x = rd_T180 l0_2 (kk : Int) := ⟨_, rfl⟩
            rw [← hx] at hx0 hx1 hx2 hwr
            clear hx
            obtain ⟨x0, x1, x2⟩ := x
            dsimp only at hx0 hx1 hx2 hwr
            have hks := spec_l07Tx.key_some x0
            generalize spec_l07Tx.key x0 = k1 at hks hwr
            have HK := Aside0.mk hks
            clear hks
            have HWR := Aside0.mk hwr
            clear hwr
            have HP := Aside0.mk hp
            clear hp
            cases k1 with
            | false =>
              go_upto_region 9 with (fail)
              have BKw := Aside0.mk (blk_new wr (.cells #[.string x0, .string x1, .bool x2] 180 (0, 0)))
              have BK1 := Aside0.mk (blk_alloc BK.out (.cells #[.string x0, .string x1, .bool x2] 180 (0, 0)))
              have D1 := Aside0.mk (below_alloc D.out (.cells #[.string x0, .string x1, .bool x2] 180 (0, 0)))
              have hw0 := (blk_cell BKw.out 0).trans rfl
              have hw1 := (blk_cell BKw.out 1).trans rfl
              have hw2 := (blk_cell BKw.out 2).trans rfl
              have hc2 : _ = some (Value.slice (some ad) l0_2.length c0_2) := (blk_cell BK1.out 2).trans rfl
              generalize hg2 : wr.heap.size = g2 at hw0 hw1 hw2 ⊢
              clear hg2 hcz0 hcz1 hcz2 hx0 hx1 hx2
              generalize wr.alloc (.cells #[.string x0, .string x1, .bool x2] 180 (0, 0)) = W1 at hw0 hw1 hw2 hc2 BKw BK1 D1 ⊢
              repeat (go_quiet ((go_at_call 79; (try simp only [i64_w]); (with_reducible refine (spec_l07Key.calls x0 false _ HK.out).mono ?_); rintro e w' ⟨rfl, ⟨nd, rfl⟩⟩; (try first | exact ⟨rfl, _, World.drewN_drewN _ _ _⟩ | exact ⟨rfl, _, Eq.trans (World.drewN_drewN _ _ _) (congrArg (World.drewN _) (Nat.add_assoc _ _ _))⟩))); try go_wp2)
              go_ret
              refine ⟨?_, by repeat (first | exact D1.out | apply below_alloc | apply pw_below_drewN | apply below_drew1)⟩
              rw [spec_l07Tx.all_miss l0_2 kk hlt (by rw [HWR.out]; simp)]
              simp
            | true =>
              by_cases k2 : (200 : Int) < (x1.size : Int)
              · have k2b : decide ((200 : Int) < (x1.size : Int)) = true := decide_eq_true k2
                have k2n : decide (200 < x1.size) = true := decide_eq_true (by omega)
                clear k2
                go_upto_region 9 with (fail)
                have BKw := Aside0.mk (blk_new wr (.cells #[.string x0, .string x1, .bool x2] 180 (0, 0)))
                have BK1 := Aside0.mk (blk_alloc BK.out (.cells #[.string x0, .string x1, .bool x2] 180 (0, 0)))
                have D1 := Aside0.mk (below_alloc D.out (.cells #[.string x0, .string x1, .bool x2] 180 (0, 0)))
                have hw0 := (blk_cell BKw.out 0).trans rfl
                have hw1 := (blk_cell BKw.out 1).trans rfl
                have hw2 := (blk_cell BKw.out 2).trans rfl
                have hc2 : _ = some (Value.slice (some ad) l0_2.length c0_2) := (blk_cell BK1.out 2).trans rfl
                generalize hg2 : wr.heap.size = g2 at hw0 hw1 hw2 ⊢
                clear hg2 hcz0 hcz1 hcz2 hx0 hx1 hx2
                generalize wr.alloc (.cells #[.string x0, .string x1, .bool x2] 180 (0, 0)) = W1 at hw0 hw1 hw2 hc2 BKw BK1 D1 ⊢
                repeat (go_quiet ((go_at_call 79; (try simp only [i64_w]); (with_reducible refine (spec_l07Key.calls x0 true _ HK.out).mono ?_); rintro e w' ⟨rfl, ⟨nd, rfl⟩⟩; (try first | exact ⟨rfl, _, World.drewN_drewN _ _ _⟩ | exact ⟨rfl, _, Eq.trans (World.drewN_drewN _ _ _) (congrArg (World.drewN _) (Nat.add_assoc _ _ _))⟩))); try go_wp2)
                go_ret
                refine ⟨?_, by repeat (first | exact D1.out | apply below_alloc | apply pw_below_drewN | apply below_drew1)⟩
                rw [spec_l07Tx.all_miss l0_2 kk hlt (by rw [HWR.out]; simp [k2b])]
                simp
              · have k2b : decide ((200 : Int) < (x1.size : Int)) = false := decide_eq_false k2
                have k2n : decide (200 < x1.size) = false := decide_eq_false (by omega)
                clear k2
                cases x2 with
                | false =>
                  rcases HP.out with e | ⟨e, y, hye, hy⟩
                  · have k5b : decide ((0 : Int) < (kk : Int)) = false := decide_eq_false (by omega)
                    have k5n : decide (0 < kk) = false := decide_eq_false (by omega)
                    clear e
                    go_upto_region 9 with (fail)
                    have BKw := Aside0.mk (blk_new wr (.cells #[.string x0, .string x1, .bool false] 180 (0, 0)))
                    have BK1 := Aside0.mk (blk_alloc BK.out (.cells #[.string x0, .string x1, .bool false] 180 (0, 0)))
                    have D1 := Aside0.mk (below_alloc D.out (.cells #[.string x0, .string x1, .bool false] 180 (0, 0)))
                    have hw0 := (blk_cell BKw.out 0).trans rfl
                    have hw1 := (blk_cell BKw.out 1).trans rfl
                    have hw2 := (blk_cell BKw.out 2).trans rfl
                    have hc2 : _ = some (Value.slice (some ad) l0_2.length c0_2) := (blk_cell BK1.out 2).trans rfl
                    generalize hg2 : wr.heap.size = g2 at hw0 hw1 hw2 ⊢
                    clear hg2 hcz0 hcz1 hcz2 hx0 hx1 hx2
                    generalize wr.alloc (.cells #[.string x0, .string x1, .bool false] 180 (0, 0)) = W1 at hw0 hw1 hw2 hc2 BKw BK1 D1 ⊢
                    repeat (go_quiet ((go_at_call 79; (try simp only [i64_w]); (with_reducible refine (spec_l07Key.calls x0 true _ HK.out).mono ?_); rintro e w' ⟨rfl, ⟨nd, rfl⟩⟩; (try first | exact ⟨rfl, _, World.drewN_drewN _ _ _⟩ | exact ⟨rfl, _, Eq.trans (World.drewN_drewN _ _ _) (congrArg (World.drewN _) (Nat.add_assoc _ _ _))⟩))); try go_wp2)
                    go_roundg (l0_2.length - (kk + 1))
                    case measure => omega
                    case rel =>
                      refine ⟨kk + 1, by omega, by omega, by go_num, ⟨?_⟩, ⟨by repeat (first | exact D1.out | apply below_alloc | apply pw_below_drewN | apply below_drew1)⟩, ⟨fun j hj => ?_⟩⟩
                      · (with_reducible repeat (first | refine blk_drewN ?_ _ | refine blk_drew ?_ | refine blk_alloc ?_ _))
                        exact BK1.out
                      · by_cases e : j = kk
                        · subst e
                          rw [HWR.out]
                          simp [k2b, k5n]
                        · exact B.out j (by omega)
                  · have k5b : decide ((0 : Int) < (kk : Int)) = true := decide_eq_true (by omega)
                    have k5n : decide (0 < kk) = true := decide_eq_true (by omega)
                    have k6 : IntKind.i64.wrap ((kk : Int) - 1) = (kk : Int) - 1 := by rw [i64_w]; unfold wrap64; omega
                    have k7 : ((kk : Int) - 1).toNat = kk - 1 := by omega
                    have k8 : 0 ≤ (kk : Int) - 1 := by omega
                    have k9 : (kk : Int) - 1 < (l0_2.length : Int) := by omega
                    have HY := Aside0.mk hye
                    clear hye e
                    cases k10 : Op.bytesLess y.f0.toList x0.toList with
                    | false =>
                      go_upto_region 9 with (fail)
                      have BKw := Aside0.mk (blk_new wr (.cells #[.string x0, .string x1, .bool false] 180 (0, 0)))
                      have BK1 := Aside0.mk (blk_alloc BK.out (.cells #[.string x0, .string x1, .bool false] 180 (0, 0)))
                      have D1 := Aside0.mk (below_alloc D.out (.cells #[.string x0, .string x1, .bool false] 180 (0, 0)))
                      have hw0 := (blk_cell BKw.out 0).trans rfl
                      have hw1 := (blk_cell BKw.out 1).trans rfl
                      have hw2 := (blk_cell BKw.out 2).trans rfl
                      have hc2 : _ = some (Value.slice (some ad) l0_2.length c0_2) := (blk_cell BK1.out 2).trans rfl
                      have hy1 := pw_cell_below (below_alloc (Below.refl _ _) (.cells #[.string x0, .string x1, .bool false] 180 (0, 0))) hy
                      generalize hg2 : wr.heap.size = g2 at hw0 hw1 hw2 ⊢
                      clear hg2 hcz0 hcz1 hcz2 hx0 hx1 hx2
                      generalize wr.alloc (.cells #[.string x0, .string x1, .bool false] 180 (0, 0)) = W1 at hw0 hw1 hw2 hc2 hy1 BKw BK1 D1 ⊢
                      repeat (go_quiet ((go_at_call 79; (try simp only [i64_w]); (with_reducible refine (spec_l07Key.calls x0 true _ HK.out).mono ?_); rintro e w' ⟨rfl, ⟨nd, rfl⟩⟩; (try first | exact ⟨rfl, _, World.drewN_drewN _ _ _⟩ | exact ⟨rfl, _, Eq.trans (World.drewN_drewN _ _ _) (congrArg (World.drewN _) (Nat.add_assoc _ _ _))⟩))); try go_wp2)
                      go_ret
                      refine ⟨?_, by repeat (first | exact D1.out | apply below_alloc | apply pw_below_drewN | apply below_drew1)⟩
                      rw [spec_l07Tx.all_miss l0_2 kk hlt (by rw [HWR.out]; rw [HY.out]; simp [k2b, k5n, k10])]
                      simp
                    | true =>
                      go_upto_region 9 with (fail)
                      have BKw := Aside0.mk (blk_new wr (.cells #[.string x0, .string x1, .bool false] 180 (0, 0)))
                      have BK1 := Aside0.mk (blk_alloc BK.out (.cells #[.string x0, .string x1, .bool false] 180 (0, 0)))
                      have D1 := Aside0.mk (below_alloc D.out (.cells #[.string x0, .string x1, .bool false] 180 (0, 0)))
                      have hw0 := (blk_cell BKw.out 0).trans rfl
                      have hw1 := (blk_cell BKw.out 1).trans rfl
                      have hw2 := (blk_cell BKw.out 2).trans rfl
                      have hc2 : _ = some (Value.slice (some ad) l0_2.length c0_2) := (blk_cell BK1.out 2).trans rfl
                      have hy1 := pw_cell_below (below_alloc (Below.refl _ _) (.cells #[.string x0, .string x1, .bool false] 180 (0, 0))) hy
                      generalize hg2 : wr.heap.size = g2 at hw0 hw1 hw2 ⊢
                      clear hg2 hcz0 hcz1 hcz2 hx0 hx1 hx2
                      generalize wr.alloc (.cells #[.string x0, .string x1, .bool false] 180 (0, 0)) = W1 at hw0 hw1 hw2 hc2 hy1 BKw BK1 D1 ⊢
                      repeat (go_quiet ((go_at_call 79; (try simp only [i64_w]); (with_reducible refine (spec_l07Key.calls x0 true _ HK.out).mono ?_); rintro e w' ⟨rfl, ⟨nd, rfl⟩⟩; (try first | exact ⟨rfl, _, World.drewN_drewN _ _ _⟩ | exact ⟨rfl, _, Eq.trans (World.drewN_drewN _ _ _) (congrArg (World.drewN _) (Nat.add_assoc _ _ _))⟩))); try go_wp2)
                      go_roundg (l0_2.length - (kk + 1))
                      case measure => omega
                      case rel =>
                        refine ⟨kk + 1, by omega, by omega, by go_num, ⟨?_⟩, ⟨by repeat (first | exact D1.out | apply below_alloc | apply pw_below_drewN | apply below_drew1)⟩, ⟨fun j hj => ?_⟩⟩
                        · (with_reducible repeat (first | refine blk_drewN ?_ _ | refine blk_drew ?_ | refine blk_alloc ?_ _))
                          exact BK1.out
                        · by_cases e : j = kk
                          · subst e
                            rw [HWR.out]
                            rw [HY.out]; simp [k2b, k5n, k10]
                          · exact B.out j (by omega)
                | true =>
                  cases k4 : x1.toList == ([] : List UInt8) with
                  | false =>
                    have k4n : (x1.toList != ([] : List UInt8)) = true := by simp only [bne, k4]; rfl
                    go_upto_region 9 with (fail)
                    have BKw := Aside0.mk (blk_new wr (.cells #[.string x0, .string x1, .bool true] 180 (0, 0)))
                    have BK1 := Aside0.mk (blk_alloc BK.out (.cells #[.string x0, .string x1, .bool true] 180 (0, 0)))
                    have D1 := Aside0.mk (below_alloc D.out (.cells #[.string x0, .string x1, .bool true] 180 (0, 0)))
                    have hw0 := (blk_cell BKw.out 0).trans rfl
                    have hw1 := (blk_cell BKw.out 1).trans rfl
                    have hw2 := (blk_cell BKw.out 2).trans rfl
                    have hc2 : _ = some (Value.slice (some ad) l0_2.length c0_2) := (blk_cell BK1.out 2).trans rfl
                    generalize hg2 : wr.heap.size = g2 at hw0 hw1 hw2 ⊢
                    clear hg2 hcz0 hcz1 hcz2 hx0 hx1 hx2
                    generalize wr.alloc (.cells #[.string x0, .string x1, .bool true] 180 (0, 0)) = W1 at hw0 hw1 hw2 hc2 BKw BK1 D1 ⊢
                    repeat (go_quiet ((go_at_call 79; (try simp only [i64_w]); (with_reducible refine (spec_l07Key.calls x0 true _ HK.out).mono ?_); rintro e w' ⟨rfl, ⟨nd, rfl⟩⟩; (try first | exact ⟨rfl, _, World.drewN_drewN _ _ _⟩ | exact ⟨rfl, _, Eq.trans (World.drewN_drewN _ _ _) (congrArg (World.drewN _) (Nat.add_assoc _ _ _))⟩))); try go_wp2)
                    go_ret
                    refine ⟨?_, by repeat (first | exact D1.out | apply below_alloc | apply pw_below_drewN | apply below_drew1)⟩
                    rw [spec_l07Tx.all_miss l0_2 kk hlt (by rw [HWR.out]; simp [k2b, k4])]
                    simp
                  | true =>
                    have k4n : (x1.toList != ([] : List UInt8)) = false := by simp only [bne, k4]; rfl
                    rcases HP.out with e | ⟨e, y, hye, hy⟩
                    · have k5b : decide ((0 : Int) < (kk : Int)) = false := decide_eq_false (by omega)
                      have k5n : decide (0 < kk) = false := decide_eq_false (by omega)
                      clear e
                      go_upto_region 9 with (fail)
                      have BKw := Aside0.mk (blk_new wr (.cells #[.string x0, .string x1, .bool true] 180 (0, 0)))
                      have BK1 := Aside0.mk (blk_alloc BK.out (.cells #[.string x0, .string x1, .bool true] 180 (0, 0)))
                      have D1 := Aside0.mk (below_alloc D.out (.cells #[.string x0, .string x1, .bool true] 180 (0, 0)))
                      have hw0 := (blk_cell BKw.out 0).trans rfl
                      have hw1 := (blk_cell BKw.out 1).trans rfl
                      have hw2 := (blk_cell BKw.out 2).trans rfl
                      have hc2 : _ = some (Value.slice (some ad) l0_2.length c0_2) := (blk_cell BK1.out 2).trans rfl
                      generalize hg2 : wr.heap.size = g2 at hw0 hw1 hw2 ⊢
                      clear hg2 hcz0 hcz1 hcz2 hx0 hx1 hx2
                      generalize wr.alloc (.cells #[.string x0, .string x1, .bool true] 180 (0, 0)) = W1 at hw0 hw1 hw2 hc2 BKw BK1 D1 ⊢
                      repeat (go_quiet ((go_at_call 79; (try simp only [i64_w]); (with_reducible refine (spec_l07Key.calls x0 true _ HK.out).mono ?_); rintro e w' ⟨rfl, ⟨nd, rfl⟩⟩; (try first | exact ⟨rfl, _, World.drewN_drewN _ _ _⟩ | exact ⟨rfl, _, Eq.trans (World.drewN_drewN _ _ _) (congrArg (World.drewN _) (Nat.add_assoc _ _ _))⟩))); try go_wp2)
                      go_roundg (l0_2.length - (kk + 1))
                      case measure => omega
                      case rel =>
                        refine ⟨kk + 1, by omega, by omega, by go_num, ⟨?_⟩, ⟨by repeat (first | exact D1.out | apply below_alloc | apply pw_below_drewN | apply below_drew1)⟩, ⟨fun j hj => ?_⟩⟩
                        · (with_reducible repeat (first | refine blk_drewN ?_ _ | refine blk_drew ?_ | refine blk_alloc ?_ _))
                          exact BK1.out
                        · by_cases e : j = kk
                          · subst e
                            rw [HWR.out]
                            simp [k2b, k4, k5n]
                          · exact B.out j (by omega)
                    · have k5b : decide ((0 : Int) < (kk : Int)) = true := decide_eq_true (by omega)
                      have k5n : decide (0 < kk) = true := decide_eq_true (by omega)
                      have k6 : IntKind.i64.wrap ((kk : Int) - 1) = (kk : Int) - 1 := by rw [i64_w]; unfold wrap64; omega
                      have k7 : ((kk : Int) - 1).toNat = kk - 1 := by omega
                      have k8 : 0 ≤ (kk : Int) - 1 := by omega
                      have k9 : (kk : Int) - 1 < (l0_2.length : Int) := by omega
                      have HY := Aside0.mk hye
                      clear hye e
                      cases k10 : Op.bytesLess y.f0.toList x0.toList with
                      | false =>
                        go_upto_region 9 with (fail)
                        have BKw := Aside0.mk (blk_new wr (.cells #[.string x0, .string x1, .bool true] 180 (0, 0)))
                        have BK1 := Aside0.mk (blk_alloc BK.out (.cells #[.string x0, .string x1, .bool true] 180 (0, 0)))
                        have D1 := Aside0.mk (below_alloc D.out (.cells #[.string x0, .string x1, .bool true] 180 (0, 0)))
                        have hw0 := (blk_cell BKw.out 0).trans rfl
                        have hw1 := (blk_cell BKw.out 1).trans rfl
                        have hw2 := (blk_cell BKw.out 2).trans rfl
                        have hc2 : _ = some (Value.slice (some ad) l0_2.length c0_2) := (blk_cell BK1.out 2).trans rfl
                        have hy1 := pw_cell_below (below_alloc (Below.refl _ _) (.cells #[.string x0, .string x1, .bool true] 180 (0, 0))) hy
                        generalize hg2 : wr.heap.size = g2 at hw0 hw1 hw2 ⊢
                        clear hg2 hcz0 hcz1 hcz2 hx0 hx1 hx2
                        generalize wr.alloc (.cells #[.string x0, .string x1, .bool true] 180 (0, 0)) = W1 at hw0 hw1 hw2 hc2 hy1 BKw BK1 D1 ⊢
                        repeat (go_quiet ((go_at_call 79; (try simp only [i64_w]); (with_reducible refine (spec_l07Key.calls x0 true _ HK.out).mono ?_); rintro e w' ⟨rfl, ⟨nd, rfl⟩⟩; (try first | exact ⟨rfl, _, World.drewN_drewN _ _ _⟩ | exact ⟨rfl, _, Eq.trans (World.drewN_drewN _ _ _) (congrArg (World.drewN _) (Nat.add_assoc _ _ _))⟩))); try go_wp2)
                        go_ret
                        refine ⟨?_, by repeat (first | exact D1.out | apply below_alloc | apply pw_below_drewN | apply below_drew1)⟩
                        rw [spec_l07Tx.all_miss l0_2 kk hlt (by rw [HWR.out]; rw [HY.out]; simp [k2b, k4, k5n, k10])]
                        simp
                      | true =>
                        go_upto_region 9 with (fail)
                        have BKw := Aside0.mk (blk_new wr (.cells #[.string x0, .string x1, .bool true] 180 (0, 0)))
                        have BK1 := Aside0.mk (blk_alloc BK.out (.cells #[.string x0, .string x1, .bool true] 180 (0, 0)))
                        have D1 := Aside0.mk (below_alloc D.out (.cells #[.string x0, .string x1, .bool true] 180 (0, 0)))
                        have hw0 := (blk_cell BKw.out 0).trans rfl
                        have hw1 := (blk_cell BKw.out 1).trans rfl
                        have hw2 := (blk_cell BKw.out 2).trans rfl
                        have hc2 : _ = some (Value.slice (some ad) l0_2.length c0_2) := (blk_cell BK1.out 2).trans rfl
                        have hy1 := pw_cell_below (below_alloc (Below.refl _ _) (.cells #[.string x0, .string x1, .bool true] 180 (0, 0))) hy
                        generalize hg2 : wr.heap.size = g2 at hw0 hw1 hw2 ⊢
                        clear hg2 hcz0 hcz1 hcz2 hx0 hx1 hx2
                        generalize wr.alloc (.cells #[.string x0, .string x1, .bool true] 180 (0, 0)) = W1 at hw0 hw1 hw2 hc2 hy1 BKw BK1 D1 ⊢
                        repeat (go_quiet ((go_at_call 79; (try simp only [i64_w]); (with_reducible refine (spec_l07Key.calls x0 true _ HK.out).mono ?_); rintro e w' ⟨rfl, ⟨nd, rfl⟩⟩; (try first | exact ⟨rfl, _, World.drewN_drewN _ _ _⟩ | exact ⟨rfl, _, Eq.trans (World.drewN_drewN _ _ _) (congrArg (World.drewN _) (Nat.add_assoc _ _ _))⟩))); try go_wp2)
                        go_roundg (l0_2.length - (kk + 1))
                        case measure => omega
                        case rel =>
                          refine ⟨kk + 1, by omega, by omega, by go_num, ⟨?_⟩, ⟨by repeat (first | exact D1.out | apply below_alloc | apply pw_below_drewN | apply below_drew1)⟩, ⟨fun j hj => ?_⟩⟩
                          · (with_reducible repeat (first | refine blk_drewN ?_ _ | refine blk_drew ?_ | refine blk_alloc ?_ _))
                            exact BK1.out
                          · by_cases e : j = kk
                            · subst e
                              rw [HWR.out]
                              rw [HY.out]; simp [k2b, k4, k5n, k10]
                            · exact B.out j (by omega)
          · have hz : kk = l0_2.length := by omega
            subst hz
            have hltb : decide ((l0_2.length : Int) < (l0_2.length : Int)) = false := decide_eq_false (by omega)
            go_wp2
            go_ret
            refine ⟨?_, D.out⟩
            rw [spec_l07Tx.all_hit l0_2 B.out]
            simp [h8b]

end Go.Proofs.Ytlhmcdafnlcioaa.XV
