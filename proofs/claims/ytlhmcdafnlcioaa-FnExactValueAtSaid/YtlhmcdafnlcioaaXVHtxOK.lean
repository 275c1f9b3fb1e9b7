-- Written for this claim: a contract of one function, proved by hand; the places of its template filled by a program.
import Derived.Test.YtlhmcdafnlcioaaXV0
import Derived.Test.YtlhmcdafnlcioaaXV6
import Derived.Lib.Walk
import Derived.Shelf.Abstract
import Derived.Test.YtlhmcdafnlcioaaWGuard
namespace Go.Proofs.Ytlhmcdafnlcioaa.XV
open Go Go.RowKit Go.Proofs.YtlhmcdafnlcioaaW.PrintWords Go.Proofs.YtlhmcdafnlcioaaW.PrintLast Go.Proofs.YtlhmcdafnlcioaaW.PrintMore
set_option linter.unusedVariables false
set_option linter.unusedSimpArgs false
open Go.Proofs.Ytlhmcdafnlcioaa.Xtra
attribute [local go_sem] Go.Proofs.Ytlhmcdafnlcioaa.Xtra.binOp_gtr Go.Proofs.Ytlhmcdafnlcioaa.Xtra.binOp_leq Go.Proofs.Ytlhmcdafnlcioaa.Xtra.binOp_geq
def impl_Base_txOK.win (x lo hi : Int) : Bool := (impl_within.f x lo hi).getD false
theorem impl_Base_txOK.win_some (x lo hi : Int) : impl_within.f x lo hi = some (impl_Base_txOK.win x lo hi) := by
  unfold impl_Base_txOK.win impl_within.f
  split <;> rfl
def impl_Base_txOK.key (s : ByteArray) : Bool := (impl_isKey.f s).getD false
theorem impl_Base_txOK.key_some (s : ByteArray) : impl_isKey.f s = some (impl_Base_txOK.key s) := by
  unfold impl_Base_txOK.key impl_isKey.f
  rw [impl_Base_txOK.win_some]
  rfl
def impl_Base_txOK.dat (s : ByteArray) : Bool := (impl_isDatum.f s).getD false
theorem impl_Base_txOK.dat_some (s : ByteArray) : impl_isDatum.f s = some (impl_Base_txOK.dat s) := rfl
/-- One write is right, where it stands. -/
def impl_Base_txOK.wr (l : List S180) (i : Nat) : Bool :=
  impl_Base_txOK.key (rd_T180 l (i : Int)).f0 && impl_Base_txOK.dat (rd_T180 l (i : Int)).f1 && (!(rd_T180 l (i : Int)).f2 || ((rd_T180 l (i : Int)).f1.toList == [])) && (!decide (0 < i) || Op.bytesLess (rd_T180 l ((i : Int) - 1)).f0.toList (rd_T180 l (i : Int)).f0.toList)
def impl_Base_txOK.f (t : Int) (op : Bool) (sn : Int) (l : List S180) : Option Bool :=
  some (if op = true then (List.range l.length).all (impl_Base_txOK.wr l) && (impl_Base_txOK.win sn 0 t && decide ((l.length : Int) ≤ 8)) else (sn == 0) && ((l.length : Int) == 0))
theorem impl_Base_txOK.all_miss (l : List S180) (kk : Nat) (h : kk < l.length) (hb : impl_Base_txOK.wr l kk = false) : (List.range l.length).all (impl_Base_txOK.wr l) = false := by
  rw [List.all_eq_false]
  exact ⟨kk, by simpa using h, by simpa using hb⟩
theorem impl_Base_txOK.all_hit (l : List S180) (h : ∀ j, j < l.length → impl_Base_txOK.wr l j = true) : (List.range l.length).all (impl_Base_txOK.wr l) = true := by
  rw [List.all_eq_true]
  exact fun j hj => h j (by simpa using hj)
set_option maxHeartbeats 8000000 in
set_option maxRecDepth 100000 in
theorem impl_Base_txOK.calls (t : Int) (A1 A2 : Option Addr) (n1 n2 c1 c2 : Nat) (op : Bool) (sn : Int) (A : Option Addr) (c : Nat) (l : List S180) (r : Bool) (w : World) (hr : Kd.C k180 w A l.length l) (hc : l.length ≤ c) (h : impl_Base_txOK.f t op sn l = some r) :
    Calls Try.prog 86 #[.agg #[.int .i64 t, .slice A1 n1 c1, .slice A2 n2 c2], .agg #[.bool op, .int .i64 sn, .slice A l.length c]] w fun e w' => e = .returned (.bool r) ∧ Below w.heap.size w w' := by
  have hub := Try.underlying25
  have hu := Try.underlying112
  have huw := Try.underlying180
  obtain rfl := Option.some.inj h
  clear h
  have hm : l.length ≤ 9223372036854775807 := hr.2.1
  have HR := Aside0.mk hr
  clear hr
  have B0 := Aside0.mk (below_alloc (below_alloc (Below.refl w.heap.size w) (.cells #[.int .i64 t, .slice A1 n1 c1, .slice A2 n2 c2] 25 (0, 0))) (.cells #[.bool op, .int .i64 sn, .slice A l.length c] 112 (0, 0)))
  cases op with
  | false =>
    by_cases z : sn = 0
    · subst z
      go_enter Try.func86, Try.ntmps86
      go_wp2
      go_ret
      exact ⟨by simp, B0.out⟩
    · have zb : (sn == 0) = false := beq_eq_false_iff_ne.2 z
      clear z
      go_enter Try.func86, Try.ntmps86
      go_wp2
      go_ret
      exact ⟨by simp [zb], B0.out⟩
  | true =>
    rw [if_pos rfl]
    have BK0 := Aside0.mk (blk_new (w.alloc (.cells #[.int .i64 t, .slice A1 n1 c1, .slice A2 n2 c2] 25 (0, 0))) (.cells #[.bool true, .int .i64 sn, .slice A l.length c] 112 (0, 0)))
    have BB0 := Aside0.mk (blk_alloc (blk_new w (.cells #[.int .i64 t, .slice A1 n1 c1, .slice A2 n2 c2] 25 (0, 0))) (.cells #[.bool true, .int .i64 sn, .slice A l.length c] 112 (0, 0)))
    go_enter Try.func86, Try.ntmps86
    go_wp2
    obtain ⟨gb, hgb⟩ : ∃ gb, gb = w.heap.size := ⟨_, rfl⟩
    obtain ⟨g, hgg⟩ : ∃ g, g = w.heap.size + 1 := ⟨_, rfl⟩
    have hsz : (w.alloc (.cells #[.int .i64 t, .slice A1 n1 c1, .slice A2 n2 c2] 25 (0, 0))).heap.size = g := by rw [hgg]; simp
    rw [hsz] at BK0
    rw [← hgb] at BB0
    try rw [← hgg]
    try rw [← hgb]
    clear hgg hgb hsz
    go_loopg [22] l.length (fun gg s22 wr => ∃ kk : Nat, kk ≤ l.length ∧ l.length - kk ≤ gg ∧ s22 = .int .i64 kk ∧ Aside0 (wr.heap[g]? = some (.cells #[.bool true, .int .i64 sn, .slice A l.length c] 112 (0, 0))) ∧ Aside0 (wr.heap[gb]? = some (.cells #[.int .i64 t, .slice A1 n1 c1, .slice A2 n2 c2] 25 (0, 0))) ∧ Aside0 (Below w.heap.size w wr) ∧ Aside0 (∀ j, j < kk → impl_Base_txOK.wr l j = true))
    case atStart => exact ⟨0, Nat.zero_le _, by omega, rfl, ⟨BK0.out⟩, ⟨BB0.out⟩, ⟨B0.out⟩, ⟨fun j hj => absurd hj (Nat.not_lt_zero _)⟩⟩
    case round =>
      obtain ⟨kk, hkk, hg, rfl, BK, BKb, D, B⟩ := hrel
      have hcz0 : wr.cell? ⟨g, 0, none⟩ = some (.bool true) := (blk_cell BK.out 0).trans rfl
      have hcz1 : wr.cell? ⟨g, 1, none⟩ = some (.int .i64 sn) := (blk_cell BK.out 1).trans rfl
      have hcz2 : wr.cell? ⟨g, 2, none⟩ = some (.slice A l.length c) := (blk_cell BK.out 2).trans rfl
      have hcb0 : wr.cell? ⟨gb, 0, none⟩ = some (.int .i64 t) := (blk_cell BKb.out 0).trans rfl
      by_cases hlt : kk < l.length
      · have hltz : (kk : Int) < (l.length : Int) := by omega
        have hltb : decide ((kk : Int) < (l.length : Int)) = true := decide_eq_true hltz
        obtain ⟨ad, e2, hx0, hx1, hx2⟩ := at_T180 (Kd.C_below HR.out D.out) (kk : Int) (by omega) hltz
        cases e2
        rw [Int.toNat_natCast] at hx0 hx1 hx2
        have hp : kk = 0 ∨ (0 < kk ∧ ∃ y, rd_T180 l ((kk : Int) - 1) = y ∧ wr.cell? (ad.add ((kk - 1) * 3)) = some (.string y.f0)) := by
          rcases Nat.eq_zero_or_pos kk with e | e
          · exact .inl e
          · refine .inr ⟨e, _, rfl, ?_⟩
            obtain ⟨ad2, e2, hy0, hy1, hy2⟩ := at_T180 (Kd.C_below HR.out D.out) ((kk : Int) - 1) (by omega) (by omega)
            obtain rfl := Option.some.inj e2
            rw [show ((kk : Int) - 1).toNat = kk - 1 by omega] at hy0
            exact hy0
        have hwr : impl_Base_txOK.wr l kk = (impl_Base_txOK.key (rd_T180 l (kk : Int)).f0 && impl_Base_txOK.dat (rd_T180 l (kk : Int)).f1 && (!(rd_T180 l (kk : Int)).f2 || ((rd_T180 l (kk : Int)).f1.toList == [])) && (!decide (0 < kk) || Op.bytesLess (rd_T180 l ((kk : Int) - 1)).f0.toList (rd_T180 l (kk : Int)).f0.toList)) := rfl
        obtain ⟨x, hx⟩ : ∃ x, x = rd_T180 l (kk : Int) := ⟨_, rfl⟩
        rw [← hx] at hx0 hx1 hx2 hwr
        clear hx
        obtain ⟨x0, x1, x2⟩ := x
        dsimp only at hx0 hx1 hx2 hwr
        have hks := impl_Base_txOK.key_some x0
        have hds := impl_Base_txOK.dat_some x1
        generalize impl_Base_txOK.key x0 = k1 at hks hwr
        generalize impl_Base_txOK.dat x1 = k2 at hds hwr
        have HK := Aside0.mk hks
        have HD := Aside0.mk hds
        clear hks hds
        have HWR := Aside0.mk hwr
        clear hwr
        have HP := Aside0.mk hp
        clear hp
        cases k1 with
        | false =>
          go_upto_region 6 with (fail)
          have BKw := Aside0.mk (blk_new wr (.cells #[.string x0, .string x1, .bool x2] 180 (0, 0)))
          have BK1 := Aside0.mk (blk_alloc BK.out (.cells #[.string x0, .string x1, .bool x2] 180 (0, 0)))
          have BKb1 := Aside0.mk (blk_alloc BKb.out (.cells #[.string x0, .string x1, .bool x2] 180 (0, 0)))
          have D1 := Aside0.mk (below_alloc D.out (.cells #[.string x0, .string x1, .bool x2] 180 (0, 0)))
          have hw0 := (blk_cell BKw.out 0).trans rfl
          have hw1 := (blk_cell BKw.out 1).trans rfl
          have hw2 := (blk_cell BKw.out 2).trans rfl
          have hc2 : _ = some (Value.slice (some ad) l.length c) := (blk_cell BK1.out 2).trans rfl
          generalize hg2 : wr.heap.size = g2 at hw0 hw1 hw2 ⊢
          clear hg2 hcz0 hcz1 hcz2 hcb0 hx0 hx1 hx2
          generalize wr.alloc (.cells #[.string x0, .string x1, .bool x2] 180 (0, 0)) = W1 at hw0 hw1 hw2 hc2 BKw BK1 BKb1 D1 ⊢
          repeat (go_quiet ((first | (go_at_call 143; (try simp only [i64_w]); (with_reducible refine (impl_isKey.calls x0 false _ HK.out).mono ?_); rintro e w' ⟨rfl, ⟨nd, rfl⟩⟩; (try first | exact ⟨rfl, _, World.drewN_drewN _ _ _⟩ | exact ⟨rfl, _, Eq.trans (World.drewN_drewN _ _ _) (congrArg (World.drewN _) (Nat.add_assoc _ _ _))⟩)) | (go_at_call 144; (try simp only [i64_w]); (with_reducible refine (impl_isDatum.calls x1 k2 _ HD.out).mono ?_); rintro e w' ⟨rfl, ⟨nd, rfl⟩⟩; (try first | exact ⟨rfl, _, World.drewN_drewN _ _ _⟩ | exact ⟨rfl, _, Eq.trans (World.drewN_drewN _ _ _) (congrArg (World.drewN _) (Nat.add_assoc _ _ _))⟩)))); try go_wp2)
          go_ret
          refine ⟨?_, by repeat (first | exact D1.out | apply below_alloc | apply pw_below_drewN | apply below_drew1)⟩
          rw [impl_Base_txOK.all_miss l kk hlt (by rw [HWR.out]; simp)]
          simp
        | true =>
          cases k2 with
          | false =>
            go_upto_region 6 with (fail)
            have BKw := Aside0.mk (blk_new wr (.cells #[.string x0, .string x1, .bool x2] 180 (0, 0)))
            have BK1 := Aside0.mk (blk_alloc BK.out (.cells #[.string x0, .string x1, .bool x2] 180 (0, 0)))
            have BKb1 := Aside0.mk (blk_alloc BKb.out (.cells #[.string x0, .string x1, .bool x2] 180 (0, 0)))
            have D1 := Aside0.mk (below_alloc D.out (.cells #[.string x0, .string x1, .bool x2] 180 (0, 0)))
            have hw0 := (blk_cell BKw.out 0).trans rfl
            have hw1 := (blk_cell BKw.out 1).trans rfl
            have hw2 := (blk_cell BKw.out 2).trans rfl
            have hc2 : _ = some (Value.slice (some ad) l.length c) := (blk_cell BK1.out 2).trans rfl
            generalize hg2 : wr.heap.size = g2 at hw0 hw1 hw2 ⊢
            clear hg2 hcz0 hcz1 hcz2 hcb0 hx0 hx1 hx2
            generalize wr.alloc (.cells #[.string x0, .string x1, .bool x2] 180 (0, 0)) = W1 at hw0 hw1 hw2 hc2 BKw BK1 BKb1 D1 ⊢
            repeat (go_quiet ((first | (go_at_call 143; (try simp only [i64_w]); (with_reducible refine (impl_isKey.calls x0 true _ HK.out).mono ?_); rintro e w' ⟨rfl, ⟨nd, rfl⟩⟩; (try first | exact ⟨rfl, _, World.drewN_drewN _ _ _⟩ | exact ⟨rfl, _, Eq.trans (World.drewN_drewN _ _ _) (congrArg (World.drewN _) (Nat.add_assoc _ _ _))⟩)) | (go_at_call 144; (try simp only [i64_w]); (with_reducible refine (impl_isDatum.calls x1 false _ HD.out).mono ?_); rintro e w' ⟨rfl, ⟨nd, rfl⟩⟩; (try first | exact ⟨rfl, _, World.drewN_drewN _ _ _⟩ | exact ⟨rfl, _, Eq.trans (World.drewN_drewN _ _ _) (congrArg (World.drewN _) (Nat.add_assoc _ _ _))⟩)))); try go_wp2)
            go_ret
            refine ⟨?_, by repeat (first | exact D1.out | apply below_alloc | apply pw_below_drewN | apply below_drew1)⟩
            rw [impl_Base_txOK.all_miss l kk hlt (by rw [HWR.out]; simp)]
            simp
          | true =>
            cases x2 with
            | false =>
              rcases HP.out with e | ⟨e, y, hye, hy⟩
              · have k5b : decide ((0 : Int) < (kk : Int)) = false := decide_eq_false (by omega)
                have k5n : decide (0 < kk) = false := decide_eq_false (by omega)
                clear e
                go_upto_region 6 with (fail)
                have BKw := Aside0.mk (blk_new wr (.cells #[.string x0, .string x1, .bool false] 180 (0, 0)))
                have BK1 := Aside0.mk (blk_alloc BK.out (.cells #[.string x0, .string x1, .bool false] 180 (0, 0)))
                have BKb1 := Aside0.mk (blk_alloc BKb.out (.cells #[.string x0, .string x1, .bool false] 180 (0, 0)))
                have D1 := Aside0.mk (below_alloc D.out (.cells #[.string x0, .string x1, .bool false] 180 (0, 0)))
                have hw0 := (blk_cell BKw.out 0).trans rfl
                have hw1 := (blk_cell BKw.out 1).trans rfl
                have hw2 := (blk_cell BKw.out 2).trans rfl
                have hc2 : _ = some (Value.slice (some ad) l.length c) := (blk_cell BK1.out 2).trans rfl
                generalize hg2 : wr.heap.size = g2 at hw0 hw1 hw2 ⊢
                clear hg2 hcz0 hcz1 hcz2 hcb0 hx0 hx1 hx2
                generalize wr.alloc (.cells #[.string x0, .string x1, .bool false] 180 (0, 0)) = W1 at hw0 hw1 hw2 hc2 BKw BK1 BKb1 D1 ⊢
                repeat (go_quiet ((first | (go_at_call 143; (try simp only [i64_w]); (with_reducible refine (impl_isKey.calls x0 true _ HK.out).mono ?_); rintro e w' ⟨rfl, ⟨nd, rfl⟩⟩; (try first | exact ⟨rfl, _, World.drewN_drewN _ _ _⟩ | exact ⟨rfl, _, Eq.trans (World.drewN_drewN _ _ _) (congrArg (World.drewN _) (Nat.add_assoc _ _ _))⟩)) | (go_at_call 144; (try simp only [i64_w]); (with_reducible refine (impl_isDatum.calls x1 true _ HD.out).mono ?_); rintro e w' ⟨rfl, ⟨nd, rfl⟩⟩; (try first | exact ⟨rfl, _, World.drewN_drewN _ _ _⟩ | exact ⟨rfl, _, Eq.trans (World.drewN_drewN _ _ _) (congrArg (World.drewN _) (Nat.add_assoc _ _ _))⟩)))); try go_wp2)
                go_roundg (l.length - (kk + 1))
                case measure => omega
                case rel =>
                  refine ⟨kk + 1, by omega, by omega, by go_num, ⟨?_⟩, ⟨?_⟩, ⟨by repeat (first | exact D1.out | apply below_alloc | apply pw_below_drewN | apply below_drew1)⟩, ⟨fun j hj => ?_⟩⟩
                  · (with_reducible repeat (first | refine blk_drewN ?_ _ | refine blk_drew ?_ | refine blk_alloc ?_ _))
                    exact BK1.out
                  · (with_reducible repeat (first | refine blk_drewN ?_ _ | refine blk_drew ?_ | refine blk_alloc ?_ _))
                    exact BKb1.out
                  · by_cases e : j = kk
                    · subst e
                      rw [HWR.out]
                      simp [k5n]
                    · exact B.out j (by omega)
              · have k5b : decide ((0 : Int) < (kk : Int)) = true := decide_eq_true (by omega)
                have k5n : decide (0 < kk) = true := decide_eq_true (by omega)
                have k6 : IntKind.i64.wrap ((kk : Int) - 1) = (kk : Int) - 1 := by rw [i64_w]; unfold wrap64; omega
                have k7 : ((kk : Int) - 1).toNat = kk - 1 := by omega
                have k8 : 0 ≤ (kk : Int) - 1 := by omega
                have k9 : (kk : Int) - 1 < (l.length : Int) := by omega
                have HY := Aside0.mk hye
                clear hye e
                cases k10 : Op.bytesLess y.f0.toList x0.toList with
                | false =>
                  go_upto_region 6 with (fail)
                  have BKw := Aside0.mk (blk_new wr (.cells #[.string x0, .string x1, .bool false] 180 (0, 0)))
                  have BK1 := Aside0.mk (blk_alloc BK.out (.cells #[.string x0, .string x1, .bool false] 180 (0, 0)))
                  have BKb1 := Aside0.mk (blk_alloc BKb.out (.cells #[.string x0, .string x1, .bool false] 180 (0, 0)))
                  have D1 := Aside0.mk (below_alloc D.out (.cells #[.string x0, .string x1, .bool false] 180 (0, 0)))
                  have hw0 := (blk_cell BKw.out 0).trans rfl
                  have hw1 := (blk_cell BKw.out 1).trans rfl
                  have hw2 := (blk_cell BKw.out 2).trans rfl
                  have hc2 : _ = some (Value.slice (some ad) l.length c) := (blk_cell BK1.out 2).trans rfl
                  have hy1 := pw_cell_below (below_alloc (Below.refl _ _) (.cells #[.string x0, .string x1, .bool false] 180 (0, 0))) hy
                  generalize hg2 : wr.heap.size = g2 at hw0 hw1 hw2 ⊢
                  clear hg2 hcz0 hcz1 hcz2 hcb0 hx0 hx1 hx2
                  generalize wr.alloc (.cells #[.string x0, .string x1, .bool false] 180 (0, 0)) = W1 at hw0 hw1 hw2 hc2 hy1 BKw BK1 BKb1 D1 ⊢
                  repeat (go_quiet ((first | (go_at_call 143; (try simp only [i64_w]); (with_reducible refine (impl_isKey.calls x0 true _ HK.out).mono ?_); rintro e w' ⟨rfl, ⟨nd, rfl⟩⟩; (try first | exact ⟨rfl, _, World.drewN_drewN _ _ _⟩ | exact ⟨rfl, _, Eq.trans (World.drewN_drewN _ _ _) (congrArg (World.drewN _) (Nat.add_assoc _ _ _))⟩)) | (go_at_call 144; (try simp only [i64_w]); (with_reducible refine (impl_isDatum.calls x1 true _ HD.out).mono ?_); rintro e w' ⟨rfl, ⟨nd, rfl⟩⟩; (try first | exact ⟨rfl, _, World.drewN_drewN _ _ _⟩ | exact ⟨rfl, _, Eq.trans (World.drewN_drewN _ _ _) (congrArg (World.drewN _) (Nat.add_assoc _ _ _))⟩)))); try go_wp2)
                  go_ret
                  refine ⟨?_, by repeat (first | exact D1.out | apply below_alloc | apply pw_below_drewN | apply below_drew1)⟩
                  rw [impl_Base_txOK.all_miss l kk hlt (by rw [HWR.out]; rw [HY.out]; simp [k5n, k10])]
                  simp
                | true =>
                  go_upto_region 6 with (fail)
                  have BKw := Aside0.mk (blk_new wr (.cells #[.string x0, .string x1, .bool false] 180 (0, 0)))
                  have BK1 := Aside0.mk (blk_alloc BK.out (.cells #[.string x0, .string x1, .bool false] 180 (0, 0)))
                  have BKb1 := Aside0.mk (blk_alloc BKb.out (.cells #[.string x0, .string x1, .bool false] 180 (0, 0)))
                  have D1 := Aside0.mk (below_alloc D.out (.cells #[.string x0, .string x1, .bool false] 180 (0, 0)))
                  have hw0 := (blk_cell BKw.out 0).trans rfl
                  have hw1 := (blk_cell BKw.out 1).trans rfl
                  have hw2 := (blk_cell BKw.out 2).trans rfl
                  have hc2 : _ = some (Value.slice (some ad) l.length c) := (blk_cell BK1.out 2).trans rfl
                  have hy1 := pw_cell_below (below_alloc (Below.refl _ _) (.cells #[.string x0, .string x1, .bool false] 180 (0, 0))) hy
                  generalize hg2 : wr.heap.size = g2 at hw0 hw1 hw2 ⊢
                  clear hg2 hcz0 hcz1 hcz2 hcb0 hx0 hx1 hx2
                  generalize wr.alloc (.cells #[.string x0, .string x1, .bool false] 180 (0, 0)) = W1 at hw0 hw1 hw2 hc2 hy1 BKw BK1 BKb1 D1 ⊢
                  repeat (go_quiet ((first | (go_at_call 143; (try simp only [i64_w]); (with_reducible refine (impl_isKey.calls x0 true _ HK.out).mono ?_); rintro e w' ⟨rfl, ⟨nd, rfl⟩⟩; (try first | exact ⟨rfl, _, World.drewN_drewN _ _ _⟩ | exact ⟨rfl, _, Eq.trans (World.drewN_drewN _ _ _) (congrArg (World.drewN _) (Nat.add_assoc _ _ _))⟩)) | (go_at_call 144; (try simp only [i64_w]); (with_reducible refine (impl_isDatum.calls x1 true _ HD.out).mono ?_); rintro e w' ⟨rfl, ⟨nd, rfl⟩⟩; (try first | exact ⟨rfl, _, World.drewN_drewN _ _ _⟩ | exact ⟨rfl, _, Eq.trans (World.drewN_drewN _ _ _) (congrArg (World.drewN _) (Nat.add_assoc _ _ _))⟩)))); try go_wp2)
                  go_roundg (l.length - (kk + 1))
                  case measure => omega
                  case rel =>
                    refine ⟨kk + 1, by omega, by omega, by go_num, ⟨?_⟩, ⟨?_⟩, ⟨by repeat (first | exact D1.out | apply below_alloc | apply pw_below_drewN | apply below_drew1)⟩, ⟨fun j hj => ?_⟩⟩
                    · (with_reducible repeat (first | refine blk_drewN ?_ _ | refine blk_drew ?_ | refine blk_alloc ?_ _))
                      exact BK1.out
                    · (with_reducible repeat (first | refine blk_drewN ?_ _ | refine blk_drew ?_ | refine blk_alloc ?_ _))
                      exact BKb1.out
                    · by_cases e : j = kk
                      · subst e
                        rw [HWR.out]
                        rw [HY.out]; simp [k5n, k10]
                      · exact B.out j (by omega)
            | true =>
              cases k4 : x1.toList == ([] : List UInt8) with
              | false =>
                have k4n : (x1.toList != ([] : List UInt8)) = true := by simp only [bne, k4]; rfl
                go_upto_region 6 with (fail)
                have BKw := Aside0.mk (blk_new wr (.cells #[.string x0, .string x1, .bool true] 180 (0, 0)))
                have BK1 := Aside0.mk (blk_alloc BK.out (.cells #[.string x0, .string x1, .bool true] 180 (0, 0)))
                have BKb1 := Aside0.mk (blk_alloc BKb.out (.cells #[.string x0, .string x1, .bool true] 180 (0, 0)))
                have D1 := Aside0.mk (below_alloc D.out (.cells #[.string x0, .string x1, .bool true] 180 (0, 0)))
                have hw0 := (blk_cell BKw.out 0).trans rfl
                have hw1 := (blk_cell BKw.out 1).trans rfl
                have hw2 := (blk_cell BKw.out 2).trans rfl
                have hc2 : _ = some (Value.slice (some ad) l.length c) := (blk_cell BK1.out 2).trans rfl
                generalize hg2 : wr.heap.size = g2 at hw0 hw1 hw2 ⊢
                clear hg2 hcz0 hcz1 hcz2 hcb0 hx0 hx1 hx2
                generalize wr.alloc (.cells #[.string x0, .string x1, .bool true] 180 (0, 0)) = W1 at hw0 hw1 hw2 hc2 BKw BK1 BKb1 D1 ⊢
                repeat (go_quiet ((first | (go_at_call 143; (try simp only [i64_w]); (with_reducible refine (impl_isKey.calls x0 true _ HK.out).mono ?_); rintro e w' ⟨rfl, ⟨nd, rfl⟩⟩; (try first | exact ⟨rfl, _, World.drewN_drewN _ _ _⟩ | exact ⟨rfl, _, Eq.trans (World.drewN_drewN _ _ _) (congrArg (World.drewN _) (Nat.add_assoc _ _ _))⟩)) | (go_at_call 144; (try simp only [i64_w]); (with_reducible refine (impl_isDatum.calls x1 true _ HD.out).mono ?_); rintro e w' ⟨rfl, ⟨nd, rfl⟩⟩; (try first | exact ⟨rfl, _, World.drewN_drewN _ _ _⟩ | exact ⟨rfl, _, Eq.trans (World.drewN_drewN _ _ _) (congrArg (World.drewN _) (Nat.add_assoc _ _ _))⟩)))); try go_wp2)
                go_ret
                refine ⟨?_, by repeat (first | exact D1.out | apply below_alloc | apply pw_below_drewN | apply below_drew1)⟩
                rw [impl_Base_txOK.all_miss l kk hlt (by rw [HWR.out]; simp [k4])]
                simp
              | true =>
                have k4n : (x1.toList != ([] : List UInt8)) = false := by simp only [bne, k4]; rfl
                rcases HP.out with e | ⟨e, y, hye, hy⟩
                · have k5b : decide ((0 : Int) < (kk : Int)) = false := decide_eq_false (by omega)
                  have k5n : decide (0 < kk) = false := decide_eq_false (by omega)
                  clear e
                  go_upto_region 6 with (fail)
                  have BKw := Aside0.mk (blk_new wr (.cells #[.string x0, .string x1, .bool true] 180 (0, 0)))
                  have BK1 := Aside0.mk (blk_alloc BK.out (.cells #[.string x0, .string x1, .bool true] 180 (0, 0)))
                  have BKb1 := Aside0.mk (blk_alloc BKb.out (.cells #[.string x0, .string x1, .bool true] 180 (0, 0)))
                  have D1 := Aside0.mk (below_alloc D.out (.cells #[.string x0, .string x1, .bool true] 180 (0, 0)))
                  have hw0 := (blk_cell BKw.out 0).trans rfl
                  have hw1 := (blk_cell BKw.out 1).trans rfl
                  have hw2 := (blk_cell BKw.out 2).trans rfl
                  have hc2 : _ = some (Value.slice (some ad) l.length c) := (blk_cell BK1.out 2).trans rfl
                  generalize hg2 : wr.heap.size = g2 at hw0 hw1 hw2 ⊢
                  clear hg2 hcz0 hcz1 hcz2 hcb0 hx0 hx1 hx2
                  generalize wr.alloc (.cells #[.string x0, .string x1, .bool true] 180 (0, 0)) = W1 at hw0 hw1 hw2 hc2 BKw BK1 BKb1 D1 ⊢
                  repeat (go_quiet ((first | (go_at_call 143; (try simp only [i64_w]); (with_reducible refine (impl_isKey.calls x0 true _ HK.out).mono ?_); rintro e w' ⟨rfl, ⟨nd, rfl⟩⟩; (try first | exact ⟨rfl, _, World.drewN_drewN _ _ _⟩ | exact ⟨rfl, _, Eq.trans (World.drewN_drewN _ _ _) (congrArg (World.drewN _) (Nat.add_assoc _ _ _))⟩)) | (go_at_call 144; (try simp only [i64_w]); (with_reducible refine (impl_isDatum.calls x1 true _ HD.out).mono ?_); rintro e w' ⟨rfl, ⟨nd, rfl⟩⟩; (try first | exact ⟨rfl, _, World.drewN_drewN _ _ _⟩ | exact ⟨rfl, _, Eq.trans (World.drewN_drewN _ _ _) (congrArg (World.drewN _) (Nat.add_assoc _ _ _))⟩)))); try go_wp2)
                  go_roundg (l.length - (kk + 1))
                  case measure => omega
                  case rel =>
                    refine ⟨kk + 1, by omega, by omega, by go_num, ⟨?_⟩, ⟨?_⟩, ⟨by repeat (first | exact D1.out | apply below_alloc | apply pw_below_drewN | apply below_drew1)⟩, ⟨fun j hj => ?_⟩⟩
                    · (with_reducible repeat (first | refine blk_drewN ?_ _ | refine blk_drew ?_ | refine blk_alloc ?_ _))
                      exact BK1.out
                    · (with_reducible repeat (first | refine blk_drewN ?_ _ | refine blk_drew ?_ | refine blk_alloc ?_ _))
                      exact BKb1.out
                    · by_cases e : j = kk
                      · subst e
                        rw [HWR.out]
                        simp [k4, k5n]
                      · exact B.out j (by omega)
                · have k5b : decide ((0 : Int) < (kk : Int)) = true := decide_eq_true (by omega)
                  have k5n : decide (0 < kk) = true := decide_eq_true (by omega)
                  have k6 : IntKind.i64.wrap ((kk : Int) - 1) = (kk : Int) - 1 := by rw [i64_w]; unfold wrap64; omega
                  have k7 : ((kk : Int) - 1).toNat = kk - 1 := by omega
                  have k8 : 0 ≤ (kk : Int) - 1 := by omega
                  have k9 : (kk : Int) - 1 < (l.length : Int) := by omega
                  have HY := Aside0.mk hye
                  clear hye e
                  cases k10 : Op.bytesLess y.f0.toList x0.toList with
                  | false =>
                    go_upto_region 6 with (fail)
                    have BKw := Aside0.mk (blk_new wr (.cells #[.string x0, .string x1, .bool true] 180 (0, 0)))
                    have BK1 := Aside0.mk (blk_alloc BK.out (.cells #[.string x0, .string x1, .bool true] 180 (0, 0)))
                    have BKb1 := Aside0.mk (blk_alloc BKb.out (.cells #[.string x0, .string x1, .bool true] 180 (0, 0)))
                    have D1 := Aside0.mk (below_alloc D.out (.cells #[.string x0, .string x1, .bool true] 180 (0, 0)))
                    have hw0 := (blk_cell BKw.out 0).trans rfl
                    have hw1 := (blk_cell BKw.out 1).trans rfl
                    have hw2 := (blk_cell BKw.out 2).trans rfl
                    have hc2 : _ = some (Value.slice (some ad) l.length c) := (blk_cell BK1.out 2).trans rfl
                    have hy1 := pw_cell_below (below_alloc (Below.refl _ _) (.cells #[.string x0, .string x1, .bool true] 180 (0, 0))) hy
                    generalize hg2 : wr.heap.size = g2 at hw0 hw1 hw2 ⊢
                    clear hg2 hcz0 hcz1 hcz2 hcb0 hx0 hx1 hx2
                    generalize wr.alloc (.cells #[.string x0, .string x1, .bool true] 180 (0, 0)) = W1 at hw0 hw1 hw2 hc2 hy1 BKw BK1 BKb1 D1 ⊢
                    repeat (go_quiet ((first | (go_at_call 143; (try simp only [i64_w]); (with_reducible refine (impl_isKey.calls x0 true _ HK.out).mono ?_); rintro e w' ⟨rfl, ⟨nd, rfl⟩⟩; (try first | exact ⟨rfl, _, World.drewN_drewN _ _ _⟩ | exact ⟨rfl, _, Eq.trans (World.drewN_drewN _ _ _) (congrArg (World.drewN _) (Nat.add_assoc _ _ _))⟩)) | (go_at_call 144; (try simp only [i64_w]); (with_reducible refine (impl_isDatum.calls x1 true _ HD.out).mono ?_); rintro e w' ⟨rfl, ⟨nd, rfl⟩⟩; (try first | exact ⟨rfl, _, World.drewN_drewN _ _ _⟩ | exact ⟨rfl, _, Eq.trans (World.drewN_drewN _ _ _) (congrArg (World.drewN _) (Nat.add_assoc _ _ _))⟩)))); try go_wp2)
                    go_ret
                    refine ⟨?_, by repeat (first | exact D1.out | apply below_alloc | apply pw_below_drewN | apply below_drew1)⟩
                    rw [impl_Base_txOK.all_miss l kk hlt (by rw [HWR.out]; rw [HY.out]; simp [k4, k5n, k10])]
                    simp
                  | true =>
                    go_upto_region 6 with (fail)
                    have BKw := Aside0.mk (blk_new wr (.cells #[.string x0, .string x1, .bool true] 180 (0, 0)))
                    have BK1 := Aside0.mk (blk_alloc BK.out (.cells #[.string x0, .string x1, .bool true] 180 (0, 0)))
                    have BKb1 := Aside0.mk (blk_alloc BKb.out (.cells #[.string x0, .string x1, .bool true] 180 (0, 0)))
                    have D1 := Aside0.mk (below_alloc D.out (.cells #[.string x0, .string x1, .bool true] 180 (0, 0)))
                    have hw0 := (blk_cell BKw.out 0).trans rfl
                    have hw1 := (blk_cell BKw.out 1).trans rfl
                    have hw2 := (blk_cell BKw.out 2).trans rfl
                    have hc2 : _ = some (Value.slice (some ad) l.length c) := (blk_cell BK1.out 2).trans rfl
                    have hy1 := pw_cell_below (below_alloc (Below.refl _ _) (.cells #[.string x0, .string x1, .bool true] 180 (0, 0))) hy
                    generalize hg2 : wr.heap.size = g2 at hw0 hw1 hw2 ⊢
                    clear hg2 hcz0 hcz1 hcz2 hcb0 hx0 hx1 hx2
                    generalize wr.alloc (.cells #[.string x0, .string x1, .bool true] 180 (0, 0)) = W1 at hw0 hw1 hw2 hc2 hy1 BKw BK1 BKb1 D1 ⊢
                    repeat (go_quiet ((first | (go_at_call 143; (try simp only [i64_w]); (with_reducible refine (impl_isKey.calls x0 true _ HK.out).mono ?_); rintro e w' ⟨rfl, ⟨nd, rfl⟩⟩; (try first | exact ⟨rfl, _, World.drewN_drewN _ _ _⟩ | exact ⟨rfl, _, Eq.trans (World.drewN_drewN _ _ _) (congrArg (World.drewN _) (Nat.add_assoc _ _ _))⟩)) | (go_at_call 144; (try simp only [i64_w]); (with_reducible refine (impl_isDatum.calls x1 true _ HD.out).mono ?_); rintro e w' ⟨rfl, ⟨nd, rfl⟩⟩; (try first | exact ⟨rfl, _, World.drewN_drewN _ _ _⟩ | exact ⟨rfl, _, Eq.trans (World.drewN_drewN _ _ _) (congrArg (World.drewN _) (Nat.add_assoc _ _ _))⟩)))); try go_wp2)
                    go_roundg (l.length - (kk + 1))
                    case measure => omega
                    case rel =>
                      refine ⟨kk + 1, by omega, by omega, by go_num, ⟨?_⟩, ⟨?_⟩, ⟨by repeat (first | exact D1.out | apply below_alloc | apply pw_below_drewN | apply below_drew1)⟩, ⟨fun j hj => ?_⟩⟩
                      · (with_reducible repeat (first | refine blk_drewN ?_ _ | refine blk_drew ?_ | refine blk_alloc ?_ _))
                        exact BK1.out
                      · (with_reducible repeat (first | refine blk_drewN ?_ _ | refine blk_drew ?_ | refine blk_alloc ?_ _))
                        exact BKb1.out
                      · by_cases e : j = kk
                        · subst e
                          rw [HWR.out]
                          rw [HY.out]; simp [k4, k5n, k10]
                        · exact B.out j (by omega)
      · have hz : kk = l.length := by omega
        subst hz
        have hltb : decide ((l.length : Int) < (l.length : Int)) = false := decide_eq_false (by omega)
        have hws := impl_Base_txOK.win_some sn 0 t
        cases hb : impl_Base_txOK.win sn 0 t with
        | false =>
          rw [hb] at hws
          have HWS := Aside0.mk hws
          have HBB := Aside0.mk hb
          clear hws hb
          go_wp2_with (go_at_call 83; (with_reducible refine (impl_within.calls sn 0 t false _ HWS.out).mono ?_); rintro e w' ⟨rfl, ⟨nd, rfl⟩⟩)
          go_ret
          exact ⟨by rw [impl_Base_txOK.all_hit l B.out, HBB.out]; simp, pw_below_drewN D.out _⟩
        | true =>
          rw [hb] at hws
          have HWS := Aside0.mk hws
          have HBB := Aside0.mk hb
          clear hws hb
          go_wp2_with (go_at_call 83; (with_reducible refine (impl_within.calls sn 0 t true _ HWS.out).mono ?_); rintro e w' ⟨rfl, ⟨nd, rfl⟩⟩)
          go_ret
          exact ⟨by rw [impl_Base_txOK.all_hit l B.out, HBB.out]; simp, pw_below_drewN D.out _⟩

end Go.Proofs.Ytlhmcdafnlcioaa.XV
