-- Written for this claim: a contract of one function, proved by hand; the places of its template filled by a program.
import Derived.Test.YtlhmcdafnlcioaaXV0
import Derived.Test.YtlhmcdafnlcioaaXV6
import Derived.Test.YtlhmcdafnlcioaaXVHtxOK
import Derived.Lib.SlBy
import Derived.Lib.Walk
import Derived.Shelf.Abstract
import Derived.Test.YtlhmcdafnlcioaaWGuard
namespace Go.Proofs.Ytlhmcdafnlcioaa.XV
open Go Go.RowKit Go.Proofs.YtlhmcdafnlcioaaW.PrintWords Go.Proofs.YtlhmcdafnlcioaaW.PrintLast Go.Proofs.YtlhmcdafnlcioaaW.PrintMore
set_option linter.unusedVariables false
set_option linter.unusedSimpArgs false
open Go.Proofs.Ytlhmcdafnlcioaa.Xtra
attribute [local go_sem] Go.Proofs.Ytlhmcdafnlcioaa.Xtra.binOp_gtr Go.Proofs.Ytlhmcdafnlcioaa.Xtra.binOp_leq Go.Proofs.Ytlhmcdafnlcioaa.Xtra.binOp_geq
abbrev impl_BaseOK.V := S107
abbrev impl_BaseOK.X := S112
/-- What a version is asked by itself, and against the one ahead of it. -/
def impl_BaseOK.own (t : Int) (v : impl_BaseOK.V) : Bool := impl_Base_txOK.key v.f0 && impl_Base_txOK.dat v.f3 && impl_Base_txOK.win v.f1 1 t && ((v.f2 == 0) || impl_Base_txOK.win v.f2 (v.f1 + 1) t)
def impl_BaseOK.behind (v y : impl_BaseOK.V) : Bool := Op.bytesLess y.f0.toList v.f0.toList || ((y.f0.toList == v.f0.toList) && (y.f2 != 0) && decide (y.f2 ≤ v.f1))
def impl_BaseOK.at_ (t : Int) (l : List impl_BaseOK.V) (i : Nat) : Bool := impl_BaseOK.own t (rd_T107 l (i : Int)) && (decide (i = 0) || impl_BaseOK.behind (rd_T107 l (i : Int)) (rd_T107 l ((i : Int) - 1)))
def impl_BaseOK.p (t : Int) (x : impl_BaseOK.X) : Bool := !(impl_Base_txOK.f t x.f0 x.f1 x.f2).getD false
theorem impl_BaseOK.p_some (t : Int) (x : impl_BaseOK.X) : impl_Base_txOK.f t x.f0 x.f1 x.f2 = some (!impl_BaseOK.p t x) := by
  unfold impl_BaseOK.p
  rw [Bool.not_not]
  rfl
def impl_BaseOK.f (t : Int) (l : List impl_BaseOK.V) (m : List impl_BaseOK.X) : Option Bool :=
  some (impl_Base_txOK.win t 0 2000 && decide ((l.length : Int) ≤ 4096) && ((m.length : Int) == 4) && !m.any (impl_BaseOK.p t) && (List.range l.length).all (impl_BaseOK.at_ t l))
theorem impl_BaseOK.all_miss (t : Int) (l : List impl_BaseOK.V) (kk : Nat) (h : kk < l.length) (hb : impl_BaseOK.at_ t l kk = false) : (List.range l.length).all (impl_BaseOK.at_ t l) = false := by
  rw [List.all_eq_false]
  exact ⟨kk, by simpa using h, by simpa using hb⟩
theorem impl_BaseOK.all_hit (t : Int) (l : List impl_BaseOK.V) (h : ∀ j, j < l.length → impl_BaseOK.at_ t l j = true) : (List.range l.length).all (impl_BaseOK.at_ t l) = true := by
  rw [List.all_eq_true]
  exact fun j hj => h j (by simpa using hj)
theorem impl_BaseOK.win_up {x lo hi : Int} (h : impl_Base_txOK.win x lo hi = true) : lo ≤ x ∧ x ≤ hi := by
  unfold impl_Base_txOK.win impl_within.f at h
  split at h
  · rename_i g
    exact ⟨g, of_decide_eq_true h⟩
  · cases h

set_option maxHeartbeats 8000000 in
set_option maxRecDepth 100000 in
theorem impl_BaseOK.verNone (t : Int) (A1 A2 : Option Addr) (n1 n2 c1 c2 : Nat) (v0 : ByteArray) (v1 v2 : Int) (v3 : ByteArray) (w : World) (ht : t ≤ 2000) :
    Calls Try.prog 87 #[.agg #[.int .i64 t, .slice A1 n1 c1, .slice A2 n2 c2], .agg #[.string v0, .int .i64 v1, .int .i64 v2, .string v3], .pointer none] w fun e w' => e = .returned (.bool (impl_BaseOK.own t ⟨v0, v1, v2, v3⟩)) ∧ Below w.heap.size w w' := by
  have hub := Try.underlying25
  have huv := Try.underlying107
  have hup := Try.underlying117
  unfold impl_BaseOK.own
  dsimp only
  have D1 := Aside0.mk (below_alloc (below_alloc (Below.refl w.heap.size w) (.cells #[.int .i64 t, .slice A1 n1 c1, .slice A2 n2 c2] 25 (0, 0))) (.cells #[.string v0, .int .i64 v1, .int .i64 v2, .string v3] 107 (0, 0)))
  have hks := impl_Base_txOK.key_some v0
  generalize impl_Base_txOK.key v0 = k1 at hks ⊢
  have hds := impl_Base_txOK.dat_some v3
  generalize impl_Base_txOK.dat v3 = k2 at hds ⊢
  have hws := impl_Base_txOK.win_some v1 1 t
  have hwu := @impl_BaseOK.win_up v1 1 t
  generalize impl_Base_txOK.win v1 1 t = k3 at hws hwu ⊢
  have hvs := impl_Base_txOK.win_some v2 (v1 + 1) t
  generalize impl_Base_txOK.win v2 (v1 + 1) t = k4 at hvs ⊢
  have HK := Aside0.mk hks
  have HD := Aside0.mk hds
  have HW := Aside0.mk hws
  have HV := Aside0.mk hvs
  clear hks hds hws hvs
  cases k1 with
  | false =>
    clear hwu
    go_enter Try.func87, Try.ntmps87
    go_wp2_with (first | (go_at_call 143; (with_reducible refine (impl_isKey.calls v0 false _ HK.out).mono ?_); rintro e w' ⟨rfl, ⟨nd, rfl⟩⟩))
    go_ret
    exact ⟨by simp, by repeat (first | exact D1.out | apply below_alloc | apply pw_below_drewN | apply below_drew1)⟩
  | true =>
    cases k2 with
    | false =>
      clear hwu
      go_enter Try.func87, Try.ntmps87
      go_wp2_with (first | (go_at_call 143; (with_reducible refine (impl_isKey.calls v0 true _ HK.out).mono ?_); rintro e w' ⟨rfl, ⟨nd, rfl⟩⟩) | (go_at_call 144; (with_reducible refine (impl_isDatum.calls v3 false _ HD.out).mono ?_); rintro e w' ⟨rfl, ⟨nd, rfl⟩⟩))
      go_ret
      exact ⟨by simp, by repeat (first | exact D1.out | apply below_alloc | apply pw_below_drewN | apply below_drew1)⟩
    | true =>
      cases k3 with
      | false =>
        clear hwu
        go_enter Try.func87, Try.ntmps87
        go_wp2_with (first | (go_at_call 143; (with_reducible refine (impl_isKey.calls v0 true _ HK.out).mono ?_); rintro e w' ⟨rfl, ⟨nd, rfl⟩⟩) | (go_at_call 144; (with_reducible refine (impl_isDatum.calls v3 true _ HD.out).mono ?_); rintro e w' ⟨rfl, ⟨nd, rfl⟩⟩) | (go_at_call 83; (with_reducible refine (impl_within.calls v1 1 t false _ HW.out).mono ?_); rintro e w' ⟨rfl, ⟨nd, rfl⟩⟩))
        go_ret
        exact ⟨by simp, by repeat (first | exact D1.out | apply below_alloc | apply pw_below_drewN | apply below_drew1)⟩
      | true =>
        obtain ⟨hv1, hv2⟩ := hwu rfl
        have hv3 : v1 ≤ 2000 := by omega
        clear hwu hv2 ht
        cases k5 : (v2 == 0) with
        | true =>
          have k5n : (v2 != 0) = false := by simp only [bne, k5]; rfl
          go_enter Try.func87, Try.ntmps87
          go_wp2_with (first | (go_at_call 143; (with_reducible refine (impl_isKey.calls v0 true _ HK.out).mono ?_); rintro e w' ⟨rfl, ⟨nd, rfl⟩⟩) | (go_at_call 144; (with_reducible refine (impl_isDatum.calls v3 true _ HD.out).mono ?_); rintro e w' ⟨rfl, ⟨nd, rfl⟩⟩) | (go_at_call 83; (with_reducible refine (impl_within.calls v1 1 t true _ HW.out).mono ?_); rintro e w' ⟨rfl, ⟨nd, rfl⟩⟩))
          repeat (go_quiet (fail); try go_wp2)
          go_ret
          exact ⟨by simp, by repeat (first | exact D1.out | apply below_alloc | apply pw_below_drewN | apply below_drew1)⟩
        | false =>
          have k5n : (v2 != 0) = true := by simp only [bne, k5]; rfl
          cases k4 with
          | false =>
            go_enter Try.func87, Try.ntmps87
            go_wp2_with (first | (go_at_call 143; (with_reducible refine (impl_isKey.calls v0 true _ HK.out).mono ?_); rintro e w' ⟨rfl, ⟨nd, rfl⟩⟩) | (go_at_call 144; (with_reducible refine (impl_isDatum.calls v3 true _ HD.out).mono ?_); rintro e w' ⟨rfl, ⟨nd, rfl⟩⟩) | (go_at_call 83; (with_reducible refine (impl_within.calls v1 1 t true _ HW.out).mono ?_); rintro e w' ⟨rfl, ⟨nd, rfl⟩⟩) | (go_at_call 83; (with_reducible refine (impl_within.calls v2 (v1 + 1) t false _ HV.out).mono ?_); rintro e w' ⟨rfl, ⟨nd, rfl⟩⟩))
            go_ret
            exact ⟨by simp, by repeat (first | exact D1.out | apply below_alloc | apply pw_below_drewN | apply below_drew1)⟩
          | true =>
            go_enter Try.func87, Try.ntmps87
            go_wp2_with (first | (go_at_call 143; (with_reducible refine (impl_isKey.calls v0 true _ HK.out).mono ?_); rintro e w' ⟨rfl, ⟨nd, rfl⟩⟩) | (go_at_call 144; (with_reducible refine (impl_isDatum.calls v3 true _ HD.out).mono ?_); rintro e w' ⟨rfl, ⟨nd, rfl⟩⟩) | (go_at_call 83; (with_reducible refine (impl_within.calls v1 1 t true _ HW.out).mono ?_); rintro e w' ⟨rfl, ⟨nd, rfl⟩⟩) | (go_at_call 83; (with_reducible refine (impl_within.calls v2 (v1 + 1) t true _ HV.out).mono ?_); rintro e w' ⟨rfl, ⟨nd, rfl⟩⟩))
            repeat (go_quiet (fail); try go_wp2)
            go_ret
            exact ⟨by simp, by repeat (first | exact D1.out | apply below_alloc | apply pw_below_drewN | apply below_drew1)⟩
set_option maxHeartbeats 8000000 in
set_option maxRecDepth 100000 in
theorem impl_BaseOK.verSome (t : Int) (A1 A2 : Option Addr) (n1 n2 c1 c2 : Nat) (v0 : ByteArray) (v1 v2 : Int) (v3 : ByteArray) (pa : Addr) (y0 : ByteArray) (y1 y2 : Int) (y3 : ByteArray) (w : World) (ht : t ≤ 2000) (hp0 : w.cell? pa = some (.string y0)) (hp2 : w.cell? ⟨pa.block, pa.off + 2, none⟩ = some (.int .i64 y2)) :
    Calls Try.prog 87 #[.agg #[.int .i64 t, .slice A1 n1 c1, .slice A2 n2 c2], .agg #[.string v0, .int .i64 v1, .int .i64 v2, .string v3], .pointer (some pa)] w fun e w' => e = .returned (.bool (impl_BaseOK.own t ⟨v0, v1, v2, v3⟩ && impl_BaseOK.behind ⟨v0, v1, v2, v3⟩ ⟨y0, y1, y2, y3⟩)) ∧ Below w.heap.size w w' := by
  have hub := Try.underlying25
  have huv := Try.underlying107
  have hup := Try.underlying117
  unfold impl_BaseOK.own
  dsimp only
  have D1 := Aside0.mk (below_alloc (below_alloc (Below.refl w.heap.size w) (.cells #[.int .i64 t, .slice A1 n1 c1, .slice A2 n2 c2] 25 (0, 0))) (.cells #[.string v0, .int .i64 v1, .int .i64 v2, .string v3] 107 (0, 0)))
  have hks := impl_Base_txOK.key_some v0
  generalize impl_Base_txOK.key v0 = k1 at hks ⊢
  have hds := impl_Base_txOK.dat_some v3
  generalize impl_Base_txOK.dat v3 = k2 at hds ⊢
  have hws := impl_Base_txOK.win_some v1 1 t
  have hwu := @impl_BaseOK.win_up v1 1 t
  generalize impl_Base_txOK.win v1 1 t = k3 at hws hwu ⊢
  have hvs := impl_Base_txOK.win_some v2 (v1 + 1) t
  generalize impl_Base_txOK.win v2 (v1 + 1) t = k4 at hvs ⊢
  have HK := Aside0.mk hks
  have HD := Aside0.mk hds
  have HW := Aside0.mk hws
  have HV := Aside0.mk hvs
  clear hks hds hws hvs
  have hp0' := pw_cell_below (below_alloc (below_alloc (Below.refl w.heap.size w) (.cells #[.int .i64 t, .slice A1 n1 c1, .slice A2 n2 c2] 25 (0, 0))) (.cells #[.string v0, .int .i64 v1, .int .i64 v2, .string v3] 107 (0, 0))) hp0
  have hp2' := pw_cell_below (below_alloc (below_alloc (Below.refl w.heap.size w) (.cells #[.int .i64 t, .slice A1 n1 c1, .slice A2 n2 c2] 25 (0, 0))) (.cells #[.string v0, .int .i64 v1, .int .i64 v2, .string v3] 107 (0, 0))) hp2
  clear hp0 hp2
  cases k1 with
  | false =>
    clear hwu
    go_enter Try.func87, Try.ntmps87
    go_wp2_with (first | (go_at_call 143; (with_reducible refine (impl_isKey.calls v0 false _ HK.out).mono ?_); rintro e w' ⟨rfl, ⟨nd, rfl⟩⟩))
    go_ret
    exact ⟨by simp, by repeat (first | exact D1.out | apply below_alloc | apply pw_below_drewN | apply below_drew1)⟩
  | true =>
    cases k2 with
    | false =>
      clear hwu
      go_enter Try.func87, Try.ntmps87
      go_wp2_with (first | (go_at_call 143; (with_reducible refine (impl_isKey.calls v0 true _ HK.out).mono ?_); rintro e w' ⟨rfl, ⟨nd, rfl⟩⟩) | (go_at_call 144; (with_reducible refine (impl_isDatum.calls v3 false _ HD.out).mono ?_); rintro e w' ⟨rfl, ⟨nd, rfl⟩⟩))
      go_ret
      exact ⟨by simp, by repeat (first | exact D1.out | apply below_alloc | apply pw_below_drewN | apply below_drew1)⟩
    | true =>
      cases k3 with
      | false =>
        clear hwu
        go_enter Try.func87, Try.ntmps87
        go_wp2_with (first | (go_at_call 143; (with_reducible refine (impl_isKey.calls v0 true _ HK.out).mono ?_); rintro e w' ⟨rfl, ⟨nd, rfl⟩⟩) | (go_at_call 144; (with_reducible refine (impl_isDatum.calls v3 true _ HD.out).mono ?_); rintro e w' ⟨rfl, ⟨nd, rfl⟩⟩) | (go_at_call 83; (with_reducible refine (impl_within.calls v1 1 t false _ HW.out).mono ?_); rintro e w' ⟨rfl, ⟨nd, rfl⟩⟩))
        go_ret
        exact ⟨by simp, by repeat (first | exact D1.out | apply below_alloc | apply pw_below_drewN | apply below_drew1)⟩
      | true =>
        obtain ⟨hv1, hv2⟩ := hwu rfl
        have hv3 : v1 ≤ 2000 := by omega
        clear hwu hv2 ht
        cases k5 : (v2 == 0) with
        | true =>
          have k5n : (v2 != 0) = false := by simp only [bne, k5]; rfl
          cases e1 : Op.bytesLess y0.toList v0.toList with
          | true =>
            go_enter Try.func87, Try.ntmps87
            go_wp2_with (first | (go_at_call 143; (with_reducible refine (impl_isKey.calls v0 true _ HK.out).mono ?_); rintro e w' ⟨rfl, ⟨nd, rfl⟩⟩) | (go_at_call 144; (with_reducible refine (impl_isDatum.calls v3 true _ HD.out).mono ?_); rintro e w' ⟨rfl, ⟨nd, rfl⟩⟩) | (go_at_call 83; (with_reducible refine (impl_within.calls v1 1 t true _ HW.out).mono ?_); rintro e w' ⟨rfl, ⟨nd, rfl⟩⟩))
            have hb0 := hp0'
            repeat (go_quiet (fail); try go_wp2)
            go_ret
            exact ⟨by unfold impl_BaseOK.behind; dsimp only; simp only [e1]; simp, by repeat (first | exact D1.out | apply below_alloc | apply pw_below_drewN | apply below_drew1)⟩
          | false =>
            cases e2 : (y0.toList == v0.toList) with
            | false =>
              go_enter Try.func87, Try.ntmps87
              go_wp2_with (first | (go_at_call 143; (with_reducible refine (impl_isKey.calls v0 true _ HK.out).mono ?_); rintro e w' ⟨rfl, ⟨nd, rfl⟩⟩) | (go_at_call 144; (with_reducible refine (impl_isDatum.calls v3 true _ HD.out).mono ?_); rintro e w' ⟨rfl, ⟨nd, rfl⟩⟩) | (go_at_call 83; (with_reducible refine (impl_within.calls v1 1 t true _ HW.out).mono ?_); rintro e w' ⟨rfl, ⟨nd, rfl⟩⟩))
              have hb0 := hp0'
              repeat (go_quiet (fail); try go_wp2)
              go_ret
              exact ⟨by unfold impl_BaseOK.behind; dsimp only; simp only [e1, e2]; simp, by repeat (first | exact D1.out | apply below_alloc | apply pw_below_drewN | apply below_drew1)⟩
            | true =>
              cases e3 : (y2 != 0) with
              | false =>
                go_enter Try.func87, Try.ntmps87
                go_wp2_with (first | (go_at_call 143; (with_reducible refine (impl_isKey.calls v0 true _ HK.out).mono ?_); rintro e w' ⟨rfl, ⟨nd, rfl⟩⟩) | (go_at_call 144; (with_reducible refine (impl_isDatum.calls v3 true _ HD.out).mono ?_); rintro e w' ⟨rfl, ⟨nd, rfl⟩⟩) | (go_at_call 83; (with_reducible refine (impl_within.calls v1 1 t true _ HW.out).mono ?_); rintro e w' ⟨rfl, ⟨nd, rfl⟩⟩))
                have hb0 := hp0'
                repeat (go_quiet (fail); try go_wp2)
                go_ret
                exact ⟨by unfold impl_BaseOK.behind; dsimp only; simp only [e1, e2, e3]; simp, by repeat (first | exact D1.out | apply below_alloc | apply pw_below_drewN | apply below_drew1)⟩
              | true =>
                cases e4 : decide (y2 ≤ v1) with
                | false =>
                  go_enter Try.func87, Try.ntmps87
                  go_wp2_with (first | (go_at_call 143; (with_reducible refine (impl_isKey.calls v0 true _ HK.out).mono ?_); rintro e w' ⟨rfl, ⟨nd, rfl⟩⟩) | (go_at_call 144; (with_reducible refine (impl_isDatum.calls v3 true _ HD.out).mono ?_); rintro e w' ⟨rfl, ⟨nd, rfl⟩⟩) | (go_at_call 83; (with_reducible refine (impl_within.calls v1 1 t true _ HW.out).mono ?_); rintro e w' ⟨rfl, ⟨nd, rfl⟩⟩))
                  have hb0 := hp0'
                  repeat (go_quiet (fail); try go_wp2)
                  go_ret
                  exact ⟨by unfold impl_BaseOK.behind; dsimp only; simp only [e1, e2, e3, e4]; simp, by repeat (first | exact D1.out | apply below_alloc | apply pw_below_drewN | apply below_drew1)⟩
                | true =>
                  go_enter Try.func87, Try.ntmps87
                  go_wp2_with (first | (go_at_call 143; (with_reducible refine (impl_isKey.calls v0 true _ HK.out).mono ?_); rintro e w' ⟨rfl, ⟨nd, rfl⟩⟩) | (go_at_call 144; (with_reducible refine (impl_isDatum.calls v3 true _ HD.out).mono ?_); rintro e w' ⟨rfl, ⟨nd, rfl⟩⟩) | (go_at_call 83; (with_reducible refine (impl_within.calls v1 1 t true _ HW.out).mono ?_); rintro e w' ⟨rfl, ⟨nd, rfl⟩⟩))
                  have hb0 := hp0'
                  repeat (go_quiet (fail); try go_wp2)
                  go_ret
                  exact ⟨by unfold impl_BaseOK.behind; dsimp only; simp only [e1, e2, e3, e4]; simp, by repeat (first | exact D1.out | apply below_alloc | apply pw_below_drewN | apply below_drew1)⟩
        | false =>
          have k5n : (v2 != 0) = true := by simp only [bne, k5]; rfl
          cases k4 with
          | false =>
            go_enter Try.func87, Try.ntmps87
            go_wp2_with (first | (go_at_call 143; (with_reducible refine (impl_isKey.calls v0 true _ HK.out).mono ?_); rintro e w' ⟨rfl, ⟨nd, rfl⟩⟩) | (go_at_call 144; (with_reducible refine (impl_isDatum.calls v3 true _ HD.out).mono ?_); rintro e w' ⟨rfl, ⟨nd, rfl⟩⟩) | (go_at_call 83; (with_reducible refine (impl_within.calls v1 1 t true _ HW.out).mono ?_); rintro e w' ⟨rfl, ⟨nd, rfl⟩⟩) | (go_at_call 83; (with_reducible refine (impl_within.calls v2 (v1 + 1) t false _ HV.out).mono ?_); rintro e w' ⟨rfl, ⟨nd, rfl⟩⟩))
            go_ret
            exact ⟨by simp, by repeat (first | exact D1.out | apply below_alloc | apply pw_below_drewN | apply below_drew1)⟩
          | true =>
            cases e1 : Op.bytesLess y0.toList v0.toList with
            | true =>
              go_enter Try.func87, Try.ntmps87
              go_wp2_with (first | (go_at_call 143; (with_reducible refine (impl_isKey.calls v0 true _ HK.out).mono ?_); rintro e w' ⟨rfl, ⟨nd, rfl⟩⟩) | (go_at_call 144; (with_reducible refine (impl_isDatum.calls v3 true _ HD.out).mono ?_); rintro e w' ⟨rfl, ⟨nd, rfl⟩⟩) | (go_at_call 83; (with_reducible refine (impl_within.calls v1 1 t true _ HW.out).mono ?_); rintro e w' ⟨rfl, ⟨nd, rfl⟩⟩) | (go_at_call 83; (with_reducible refine (impl_within.calls v2 (v1 + 1) t true _ HV.out).mono ?_); rintro e w' ⟨rfl, ⟨nd, rfl⟩⟩))
              have hb0 := hp0'
              repeat (go_quiet (fail); try go_wp2)
              go_ret
              exact ⟨by unfold impl_BaseOK.behind; dsimp only; simp only [e1]; simp, by repeat (first | exact D1.out | apply below_alloc | apply pw_below_drewN | apply below_drew1)⟩
            | false =>
              cases e2 : (y0.toList == v0.toList) with
              | false =>
                go_enter Try.func87, Try.ntmps87
                go_wp2_with (first | (go_at_call 143; (with_reducible refine (impl_isKey.calls v0 true _ HK.out).mono ?_); rintro e w' ⟨rfl, ⟨nd, rfl⟩⟩) | (go_at_call 144; (with_reducible refine (impl_isDatum.calls v3 true _ HD.out).mono ?_); rintro e w' ⟨rfl, ⟨nd, rfl⟩⟩) | (go_at_call 83; (with_reducible refine (impl_within.calls v1 1 t true _ HW.out).mono ?_); rintro e w' ⟨rfl, ⟨nd, rfl⟩⟩) | (go_at_call 83; (with_reducible refine (impl_within.calls v2 (v1 + 1) t true _ HV.out).mono ?_); rintro e w' ⟨rfl, ⟨nd, rfl⟩⟩))
                have hb0 := hp0'
                repeat (go_quiet (fail); try go_wp2)
                go_ret
                exact ⟨by unfold impl_BaseOK.behind; dsimp only; simp only [e1, e2]; simp, by repeat (first | exact D1.out | apply below_alloc | apply pw_below_drewN | apply below_drew1)⟩
              | true =>
                cases e3 : (y2 != 0) with
                | false =>
                  go_enter Try.func87, Try.ntmps87
                  go_wp2_with (first | (go_at_call 143; (with_reducible refine (impl_isKey.calls v0 true _ HK.out).mono ?_); rintro e w' ⟨rfl, ⟨nd, rfl⟩⟩) | (go_at_call 144; (with_reducible refine (impl_isDatum.calls v3 true _ HD.out).mono ?_); rintro e w' ⟨rfl, ⟨nd, rfl⟩⟩) | (go_at_call 83; (with_reducible refine (impl_within.calls v1 1 t true _ HW.out).mono ?_); rintro e w' ⟨rfl, ⟨nd, rfl⟩⟩) | (go_at_call 83; (with_reducible refine (impl_within.calls v2 (v1 + 1) t true _ HV.out).mono ?_); rintro e w' ⟨rfl, ⟨nd, rfl⟩⟩))
                  have hb0 := hp0'
                  repeat (go_quiet (fail); try go_wp2)
                  go_ret
                  exact ⟨by unfold impl_BaseOK.behind; dsimp only; simp only [e1, e2, e3]; simp, by repeat (first | exact D1.out | apply below_alloc | apply pw_below_drewN | apply below_drew1)⟩
                | true =>
                  cases e4 : decide (y2 ≤ v1) with
                  | false =>
                    go_enter Try.func87, Try.ntmps87
                    go_wp2_with (first | (go_at_call 143; (with_reducible refine (impl_isKey.calls v0 true _ HK.out).mono ?_); rintro e w' ⟨rfl, ⟨nd, rfl⟩⟩) | (go_at_call 144; (with_reducible refine (impl_isDatum.calls v3 true _ HD.out).mono ?_); rintro e w' ⟨rfl, ⟨nd, rfl⟩⟩) | (go_at_call 83; (with_reducible refine (impl_within.calls v1 1 t true _ HW.out).mono ?_); rintro e w' ⟨rfl, ⟨nd, rfl⟩⟩) | (go_at_call 83; (with_reducible refine (impl_within.calls v2 (v1 + 1) t true _ HV.out).mono ?_); rintro e w' ⟨rfl, ⟨nd, rfl⟩⟩))
                    have hb0 := hp0'
                    repeat (go_quiet (fail); try go_wp2)
                    go_ret
                    exact ⟨by unfold impl_BaseOK.behind; dsimp only; simp only [e1, e2, e3, e4]; simp, by repeat (first | exact D1.out | apply below_alloc | apply pw_below_drewN | apply below_drew1)⟩
                  | true =>
                    go_enter Try.func87, Try.ntmps87
                    go_wp2_with (first | (go_at_call 143; (with_reducible refine (impl_isKey.calls v0 true _ HK.out).mono ?_); rintro e w' ⟨rfl, ⟨nd, rfl⟩⟩) | (go_at_call 144; (with_reducible refine (impl_isDatum.calls v3 true _ HD.out).mono ?_); rintro e w' ⟨rfl, ⟨nd, rfl⟩⟩) | (go_at_call 83; (with_reducible refine (impl_within.calls v1 1 t true _ HW.out).mono ?_); rintro e w' ⟨rfl, ⟨nd, rfl⟩⟩) | (go_at_call 83; (with_reducible refine (impl_within.calls v2 (v1 + 1) t true _ HV.out).mono ?_); rintro e w' ⟨rfl, ⟨nd, rfl⟩⟩))
                    have hb0 := hp0'
                    repeat (go_quiet (fail); try go_wp2)
                    go_ret
                    exact ⟨by unfold impl_BaseOK.behind; dsimp only; simp only [e1, e2, e3, e4]; simp, by repeat (first | exact D1.out | apply below_alloc | apply pw_below_drewN | apply below_drew1)⟩
set_option maxHeartbeats 4000000 in
set_option maxRecDepth 100000 in
/-- The closure. -/
theorem impl_BaseOK.second (g : Nat) (t : Int) (A1 A2 : Option Addr) (n1 n2 c1 c2 : Nat) (x : impl_BaseOK.X) (A : Option Addr) (c : Nat) (W : World) (hb : W.heap[g]? = some (.cells #[.int .i64 t, .slice A1 n1 c1, .slice A2 n2 c2] 25 (0, 0)))
    (hr : Kd.C k180 W A x.f2.length x.f2) (hc : x.f2.length ≤ c) :
    Calls Try.prog 85 #[.agg #[.bool x.f0, .int .i64 x.f1, .slice A x.f2.length c], .pointer (some ⟨g, 0, none⟩)] W fun e W' => e = .returned (.bool (impl_BaseOK.p t x)) ∧ Below W.heap.size W W' := by
  have hub := Try.underlying25
  have hux := Try.underlying112
  have HR := Aside0.mk hr
  have hz0 := fun o => (pw_cell_below (below_alloc (Below.refl W.heap.size W) o) ((blk_cell hb 0).trans rfl))
  have hz1 := fun o => (pw_cell_below (below_alloc (Below.refl W.heap.size W) o) ((blk_cell hb 1).trans rfl))
  have hz2 := fun o => (pw_cell_below (below_alloc (Below.refl W.heap.size W) o) ((blk_cell hb 2).trans rfl))
  clear hb hr
  have hh := impl_BaseOK.p_some t x
  cases hq : impl_BaseOK.p t x with
  | false =>
    rw [hq] at hh
    have HH := Aside0.mk hh
    clear hh hq
    go_enter Try.func85, Try.ntmps85
    go_wp2_with (go_at_call 86; (with_reducible refine (impl_Base_txOK.calls t A1 A2 n1 n2 c1 c2 x.f0 x.f1 A c x.f2 (!false) _ ?r0 hc HH.out).mono ?_); (case r0 => exact Kd.C_below HR.out (below_alloc (Below.refl _ _) _)); rintro e w' ⟨rfl, hb⟩; have D := Aside0.mk (below_then (below_alloc (Below.refl W.heap.size W) _) (below_alloc (Below.refl W.heap.size W) _).size hb); clear hb)
    go_ret
    exact ⟨rfl, D.out⟩
  | true =>
    rw [hq] at hh
    have HH := Aside0.mk hh
    clear hh hq
    go_enter Try.func85, Try.ntmps85
    go_wp2_with (go_at_call 86; (with_reducible refine (impl_Base_txOK.calls t A1 A2 n1 n2 c1 c2 x.f0 x.f1 A c x.f2 (!true) _ ?r0 hc HH.out).mono ?_); (case r0 => exact Kd.C_below HR.out (below_alloc (Below.refl _ _) _)); rintro e w' ⟨rfl, hb⟩; have D := Aside0.mk (below_then (below_alloc (Below.refl W.heap.size W) _) (below_alloc (Below.refl W.heap.size W) _).size hb); clear hb)
    go_ret
    exact ⟨rfl, D.out⟩

set_option maxHeartbeats 4000000 in
/-- slices.IndexFunc over structs that hold a slice. -/
theorem impl_BaseOK.idx (p : impl_BaseOK.X → Bool) (g : Nat) (lb : Array Value) (A : Option Addr) (c : Nat) (l : List impl_BaseOK.X) (w : World)
    (eg : ∀ args w, (callFunc g args).run Try.prog w = .ok (.enter g args) w)
    (hp : ∀ (W : World) (x : impl_BaseOK.X) (A2 : Option Addr) (c2 : Nat), Below w.heap.size w W → Kd.C k180 W A2 x.f2.length x.f2 → x.f2.length ≤ c2 → Calls Try.prog g (#[.agg #[.bool x.f0, .int .i64 x.f1, .slice A2 x.f2.length c2]] ++ lb) W fun e W' => e = .returned (.bool (p x)) ∧ Below W.heap.size W W')
    (hr : Kd.C k112 w A l.length l) :
    Calls Try.prog 142 #[.slice A l.length c, .func (.func g) #[] lb] w fun e w' => e = .returned (.int .i64 (Lib.idxBy (fun _ y => p y) l z112)) ∧ Below w.heap.size w w' := by
  have hm : l.length ≤ 9223372036854775807 := hr.2.1
  by_cases hl : l = []
  · subst hl
    clear hp
    go_enter Try.func142, Try.ntmps142
    go_wp2
    go_loopg [5, 8] 0 (fun _ _ s8 wr => s8 = .int .i64 0 ∧ wr = w)
    case atStart => exact ⟨rfl, rfl⟩
    case round =>
      obtain ⟨rfl, rfl⟩ := hrel
      go_wp2
      go_ret
      exact ⟨rfl, Below.refl _ _⟩
  · have hpos : 0 < l.length := List.length_pos_iff.mpr hl
    obtain ⟨ad, rfl, hx0⟩ := hr.2.2 hpos
    clear hx0 hl
    have HR := Aside0.mk hr
    clear hr
    have HP := Aside0.mk hp
    clear hp
    go_enter Try.func142, Try.ntmps142
    go_wp2
    go_loopg [5, 8] l.length (fun gg _ s8 wr => ∃ kk : Nat, kk ≤ l.length ∧ l.length - kk ≤ gg ∧ s8 = .int .i64 kk ∧ Aside0 (Below w.heap.size w wr) ∧ Aside0 (∀ j, j < kk → p (l.getD j z112) = false))
    case atStart => exact ⟨0, Nat.zero_le _, by omega, rfl, ⟨Below.refl _ _⟩, ⟨fun j hj => absurd hj (Nat.not_lt_zero _)⟩⟩
    case round =>
      obtain ⟨kk, hkk, hg, rfl, D, B⟩ := hrel
      by_cases hlt : kk < l.length
      · have hltz : (kk : Int) < (l.length : Int) := by omega
        obtain ⟨ad2, A2, c2, e2, hx0, hx1, hx2, hl2, hi2⟩ := at_T112 (Kd.C_below HR.out D.out) (kk : Int) (by omega) hltz
        obtain rfl := Option.some.inj e2
        clear e2
        rw [Int.toNat_natCast] at hx0 hx1 hx2
        generalize hy : rd_T112 l (kk : Int) = y at hx0 hx1 hx2 hl2 hi2
        have Y : Aside0 (l.getD kk z112 = y) := ⟨by rw [← hy]; simp [rd_T112]⟩
        clear hy
        have hcall := HP.out wr y A2 c2 D.out hi2 hl2
        have HL2 := Aside0.mk hl2
        clear hi2 hl2
        cases hq : p y with
        | true =>
          rw [hq] at hcall
          have HC := Aside0.mk hcall
          have HQ := Aside0.mk hq
          clear hq hcall
          go_wp2_with (go_at_fn g; refine (HC.out).mono ?_; rintro e w' ⟨rfl, hb⟩)
          go_ret
          refine ⟨?_, below_then D.out D.out.size hb⟩
          rw [idx_hit p l z112 kk hlt (by rw [Y.out]; exact HQ.out) B.out]
          rfl
        | false =>
          rw [hq] at hcall
          have HC := Aside0.mk hcall
          have HQ := Aside0.mk hq
          clear hq hcall
          go_wp2_with (go_at_fn g; refine (HC.out).mono ?_; rintro e w' ⟨rfl, hb⟩)
          go_roundg (l.length - (kk + 1))
          case measure => omega
          case rel =>
            refine ⟨kk + 1, by omega, by omega, by go_num, ⟨below_then D.out D.out.size hb⟩, ⟨fun j hj => ?_⟩⟩
            by_cases e : j = kk
            · subst e
              rw [Y.out]
              exact HQ.out
            · exact B.out j (by omega)
      · have hltz : ¬ (kk : Int) < (l.length : Int) := by omega
        have hz : kk = l.length := by omega
        subst hz
        go_wp2
        go_ret
        refine ⟨?_, D.out⟩
        rw [idx_miss p l z112 B.out]
        rfl

set_option maxHeartbeats 4000000 in
theorem impl_BaseOK.has (p : impl_BaseOK.X → Bool) (g : Nat) (lb : Array Value) (A : Option Addr) (c : Nat) (l : List impl_BaseOK.X) (w : World)
    (eg : ∀ args w, (callFunc g args).run Try.prog w = .ok (.enter g args) w)
    (hp : ∀ (W : World) (x : impl_BaseOK.X) (A2 : Option Addr) (c2 : Nat), Below w.heap.size w W → Kd.C k180 W A2 x.f2.length x.f2 → x.f2.length ≤ c2 → Calls Try.prog g (#[.agg #[.bool x.f0, .int .i64 x.f1, .slice A2 x.f2.length c2]] ++ lb) W fun e W' => e = .returned (.bool (p x)) ∧ Below W.heap.size W W')
    (hr : Kd.C k112 w A l.length l) :
    Calls Try.prog 84 #[.slice A l.length c, .func (.func g) #[] lb] w fun e w' => e = .returned (.bool (l.any p)) ∧ Below w.heap.size w w' := by
  rw [show l.any p = decide (0 ≤ Lib.idxBy (fun _ y => p y) l z112) from (Lib.idxBy_nonneg_iff (fun _ y => p y) l z112).symm]
  have HI := impl_BaseOK.idx p g lb A c l w eg hp hr
  clear hp hr
  generalize Lib.idxBy (fun _ y => p y) l z112 = n at HI ⊢
  have HH := Aside0.mk HI
  clear HI
  go_enter Try.func84, Try.ntmps84
  go_wp2_with (go_at_call 142; refine (HH.out).mono ?_; rintro e w' ⟨rfl, hb⟩)
  go_ret
  exact ⟨rfl, hb⟩

set_option maxHeartbeats 8000000 in
set_option maxRecDepth 100000 in
theorem impl_BaseOK.calls (t : Int) (A1 : Option Addr) (c1 : Nat) (l : List impl_BaseOK.V) (A2 : Option Addr) (c2 : Nat) (m : List impl_BaseOK.X) (r : Bool) (w : World) (hr1 : Kd.C k107 w A1 l.length l) (hc1 : l.length ≤ c1) (hr2 : Kd.C k112 w A2 m.length m) (hc2 : m.length ≤ c2) (h : impl_BaseOK.f t l m = some r) :
    Calls Try.prog 23 #[.agg #[.int .i64 t, .slice A1 l.length c1, .slice A2 m.length c2]] w fun e w' => e = .returned (.bool r) ∧ Below w.heap.size w w' := by
  have hub := Try.underlying25
  have huv := Try.underlying107
  have hm1 : l.length ≤ 9223372036854775807 := hr1.2.1
  have HR1 := Aside0.mk hr1
  have HR2 := Aside0.mk hr2
  clear hr1 hr2
  obtain rfl := Option.some.inj h
  clear h
  have hw := impl_Base_txOK.win_some t 0 2000
  have hwu := @impl_BaseOK.win_up t 0 2000
  have ha : ∀ W g, W.heap[g]? = some (.cells #[.int .i64 t, .slice A1 l.length c1, .slice A2 m.length c2] 25 (0, 0)) → Kd.C k112 W A2 m.length m → Calls Try.prog 84 #[.slice A2 m.length c2, .func (.func 85) #[] #[.pointer (some ⟨g, 0, none⟩)]] W fun e w' => e = .returned (.bool (m.any (impl_BaseOK.p t))) ∧ Below W.heap.size W w' := fun W g hg hC =>
    impl_BaseOK.has (impl_BaseOK.p t) 85 #[.pointer (some ⟨g, 0, none⟩)] A2 c2 m W (enters_of Try.func85 (by kernel_rfl) rfl) (fun W' x A2' c2' hW hC' hl' => by simpa using impl_BaseOK.second g t A1 A2 l.length m.length c1 c2 x A2' c2' W' (blk_below hg hW) hC' hl') hC
  unfold impl_BaseOK.f at *
  cases b1 : impl_Base_txOK.win t 0 2000 with
  | false =>
    rw [b1] at hw
    have HW := Aside0.mk hw
    have B1 := Aside0.mk b1
    clear hw hwu ha b1
    go_enter Try.func23, Try.ntmps23
    go_wp2_with (go_at_call 83; (with_reducible refine (impl_within.calls t 0 2000 false _ HW.out).mono ?_); rintro e w' ⟨rfl, ⟨nd, rfl⟩⟩)
    go_ret
    exact ⟨rfl, by repeat (first | exact Below.refl _ _ | apply pw_below_drewN | apply below_alloc)⟩
  | true =>
    rw [b1] at hw hwu
    obtain ⟨ht0, ht1⟩ := hwu rfl
    have HT := Aside0.mk ht1
    have HW := Aside0.mk hw
    have B1 := Aside0.mk b1
    clear hw hwu b1 ht0 ht1
    by_cases b2 : (4096 : Int) < (l.length : Int)
    · have b2b : decide ((4096 : Int) < (l.length : Int)) = true := decide_eq_true b2
      have B2 : Aside0 (decide ((l.length : Int) ≤ 4096) = false) := ⟨decide_eq_false (by omega)⟩
      have b2n : decide (4096 < l.length) = true := decide_eq_true (by omega)
      clear b2 ha
      go_enter Try.func23, Try.ntmps23
      go_wp2_with (go_at_call 83; (with_reducible refine (impl_within.calls t 0 2000 true _ HW.out).mono ?_); rintro e w' ⟨rfl, ⟨nd, rfl⟩⟩)
      go_ret
      exact ⟨by rw [B2.out]; rfl, by repeat (first | exact Below.refl _ _ | apply pw_below_drewN | apply below_alloc)⟩
    · have b2b : decide ((4096 : Int) < (l.length : Int)) = false := decide_eq_false b2
      have B2 : Aside0 (decide ((l.length : Int) ≤ 4096) = true) := ⟨decide_eq_true (by omega)⟩
      have b2n : decide (4096 < l.length) = false := decide_eq_false (by omega)
      have hl4 : l.length ≤ 4096 := by omega
      clear b2
      by_cases b3 : (m.length : Int) = 4
      · have b3b : ((m.length : Int) == 4) = true := beq_iff_eq.2 b3
        have b3n : ((m.length : Int) != 4) = false := by simp only [bne, b3b]; rfl
        have B3 := Aside0.mk b3b
        clear b3 b3b
        have D0 := Aside0.mk (below_alloc (Below.refl w.heap.size w) (.cells #[.int .i64 t, .slice A1 l.length c1, .slice A2 m.length c2] 25 (0, 0)))
        have BK0 := Aside0.mk (blk_new w (.cells #[.int .i64 t, .slice A1 l.length c1, .slice A2 m.length c2] 25 (0, 0)))
        cases b4 : m.any (impl_BaseOK.p t) with
        | true =>
          rw [b4] at ha
          have HA := Aside0.mk ha
          have B4 := Aside0.mk b4
          clear ha b4
          go_enter Try.func23, Try.ntmps23
          go_wp2_with (first | (go_at_call 83; (with_reducible refine (impl_within.calls t 0 2000 true _ HW.out).mono ?_); rintro e w' ⟨rfl, ⟨nd, rfl⟩⟩) | (go_at_call 84; (with_reducible refine (HA.out _ w.heap.size (blk_drewN BK0.out _) (Kd.C_below HR2.out (pw_below_drewN D0.out _))).mono ?_); rintro e w2 ⟨rfl, hd⟩; have D2 := Aside0.mk (below_then (pw_below_drewN D0.out _) (pw_below_drewN D0.out _).size hd); have BK2 := Aside0.mk (blk_below (blk_drewN BK0.out _) hd); clear hd; have hcb1 := (blk_cell BK2.out 1).trans rfl))
          go_ret
          exact ⟨by rw [B2.out, B3.out]; rfl, D2.out⟩
        | false =>
          rw [b4] at ha
          have HA := Aside0.mk ha
          have B4 := Aside0.mk b4
          clear ha b4
          go_enter Try.func23, Try.ntmps23
          go_wp2_with (first | (go_at_call 83; (with_reducible refine (impl_within.calls t 0 2000 true _ HW.out).mono ?_); rintro e w' ⟨rfl, ⟨nd, rfl⟩⟩) | (go_at_call 84; (with_reducible refine (HA.out _ w.heap.size (blk_drewN BK0.out _) (Kd.C_below HR2.out (pw_below_drewN D0.out _))).mono ?_); rintro e w2 ⟨rfl, hd⟩; have D2 := Aside0.mk (below_then (pw_below_drewN D0.out _) (pw_below_drewN D0.out _).size hd); have BK2 := Aside0.mk (blk_below (blk_drewN BK0.out _) hd); clear hd; have hcb1 := (blk_cell BK2.out 1).trans rfl))
          obtain ⟨g, hgg⟩ : ∃ g, g = w.heap.size := ⟨_, rfl⟩
          rw [← hgg] at BK2 hcb1 ⊢
          clear hgg hcb1 BK0 D0
          go_loopg [31] l.length (fun gg s31 wr => ∃ kk : Nat, kk ≤ l.length ∧ l.length - kk ≤ gg ∧ s31 = .int .i64 kk ∧ Aside0 (wr.heap[g]? = some (.cells #[.int .i64 t, .slice A1 l.length c1, .slice A2 m.length c2] 25 (0, 0))) ∧ Aside0 (Below w.heap.size w wr) ∧ Aside0 (∀ j, j < kk → impl_BaseOK.at_ t l j = true))
          case atStart => exact ⟨0, Nat.zero_le _, by omega, rfl, ⟨BK2.out⟩, ⟨D2.out⟩, ⟨fun j hj => absurd hj (Nat.not_lt_zero _)⟩⟩
          case round =>
            clear D2 BK2
            obtain ⟨kk, hkk, hg, rfl, BK, D, B⟩ := hrel
            have hcz0 : wr.cell? ⟨g, 0, none⟩ = some (.int .i64 t) := (blk_cell BK.out 0).trans rfl
            have hcz1 : wr.cell? ⟨g, 1, none⟩ = some (.slice A1 l.length c1) := (blk_cell BK.out 1).trans rfl
            have hcz2 : wr.cell? ⟨g, 2, none⟩ = some (.slice A2 m.length c2) := (blk_cell BK.out 2).trans rfl
            by_cases hlt : kk < l.length
            · have hltz : (kk : Int) < (l.length : Int) := by omega
              have hltb : decide ((kk : Int) < (l.length : Int)) = true := decide_eq_true hltz
              obtain ⟨ad, e2, hx0, hx1, hx2, hx3⟩ := at_T107 (Kd.C_below HR1.out D.out) (kk : Int) (by omega) hltz
              cases e2
              rw [Int.toNat_natCast] at hx0 hx1 hx2 hx3
              have hp : kk = 0 ∨ (0 < kk ∧ ∃ y, rd_T107 l ((kk : Int) - 1) = y ∧ wr.cell? (ad.add ((kk - 1) * 4)) = some (.string y.f0) ∧ wr.cell? ⟨(ad.add ((kk - 1) * 4)).block, (ad.add ((kk - 1) * 4)).off + 2, none⟩ = some (.int .i64 y.f2)) := by
                rcases Nat.eq_zero_or_pos kk with e | e
                · exact .inl e
                · refine .inr ⟨e, _, rfl, ?_⟩
                  obtain ⟨ad2, e2, hy0, hy1, hy2, hy3⟩ := at_T107 (Kd.C_below HR1.out D.out) ((kk : Int) - 1) (by omega) (by omega)
                  obtain rfl := Option.some.inj e2
                  rw [show ((kk : Int) - 1).toNat = kk - 1 by omega] at hy0 hy2
                  exact ⟨hy0, hy2⟩
              have hat : impl_BaseOK.at_ t l kk = (impl_BaseOK.own t (rd_T107 l (kk : Int)) && (decide (kk = 0) || impl_BaseOK.behind (rd_T107 l (kk : Int)) (rd_T107 l ((kk : Int) - 1)))) := rfl
              obtain ⟨x, hx⟩ : ∃ x, x = rd_T107 l (kk : Int) := ⟨_, rfl⟩
              rw [← hx] at hx0 hx1 hx2 hx3 hat
              clear hx
              have HAT := Aside0.mk hat
              clear hat
              have HP := Aside0.mk hp
              clear hp
              have D1 := Aside0.mk (below_alloc D.out (.cells #[.string x.f0, .int .i64 x.f1, .int .i64 x.f2, .string x.f3] 107 (0, 0)))
              have BKw := Aside0.mk (blk_new wr (.cells #[.string x.f0, .int .i64 x.f1, .int .i64 x.f2, .string x.f3] 107 (0, 0)))
              have BK1 := Aside0.mk (blk_alloc BK.out (.cells #[.string x.f0, .int .i64 x.f1, .int .i64 x.f2, .string x.f3] 107 (0, 0)))
              have hd0 := (blk_cell BK1.out 0).trans rfl
              have hd1 := (blk_cell BK1.out 1).trans rfl
              have hd2 := (blk_cell BK1.out 2).trans rfl
              have hw0 := (blk_cell BKw.out 0).trans rfl
              have hw1 := (blk_cell BKw.out 1).trans rfl
              have hw2 := (blk_cell BKw.out 2).trans rfl
              have hw3 := (blk_cell BKw.out 3).trans rfl
              rcases HP.out with e | ⟨e, y, hye, hy0, hy2⟩
              · have k5b : decide ((0 : Int) < (kk : Int)) = false := decide_eq_false (by omega)
                have k5n : decide (0 < kk) = false := decide_eq_false (by omega)
                have K5 : Aside0 (decide (kk = 0) = true) := ⟨decide_eq_true e⟩
                clear e
                cases hv : impl_BaseOK.own t x with
                | false =>
                  have HV := Aside0.mk hv
                  have hcl := impl_BaseOK.verNone t (some ad) A2 l.length m.length c1 c2 x.f0 x.f1 x.f2 x.f3 (wr.alloc (.cells #[.string x.f0, .int .i64 x.f1, .int .i64 x.f2, .string x.f3] 107 (0, 0))) HT.out
                  rw [hv] at hcl
                  have HCL := Aside0.mk hcl
                  clear hv hcl
                  go_wp2_with (go_at_call 87; (refine (HCL.out).mono ?_); rintro e w3 ⟨rfl, hd⟩; have D3 := Aside0.mk (below_then D1.out D1.out.size hd); have BK3 := Aside0.mk (blk_below BK1.out hd); clear hd)
                  go_ret
                  exact ⟨by rw [impl_BaseOK.all_miss t l kk hlt (by rw [HAT.out, HV.out, K5.out]; rfl)]; simp, D3.out⟩
                | true =>
                  have HV := Aside0.mk hv
                  have hcl := impl_BaseOK.verNone t (some ad) A2 l.length m.length c1 c2 x.f0 x.f1 x.f2 x.f3 (wr.alloc (.cells #[.string x.f0, .int .i64 x.f1, .int .i64 x.f2, .string x.f3] 107 (0, 0))) HT.out
                  rw [hv] at hcl
                  have HCL := Aside0.mk hcl
                  clear hv hcl
                  go_wp2_with (go_at_call 87; (refine (HCL.out).mono ?_); rintro e w3 ⟨rfl, hd⟩; have D3 := Aside0.mk (below_then D1.out D1.out.size hd); have BK3 := Aside0.mk (blk_below BK1.out hd); clear hd)
                  go_roundg (l.length - (kk + 1))
                  case measure => omega
                  case rel =>
                    refine ⟨kk + 1, by omega, by omega, by go_num, ⟨BK3.out⟩, ⟨D3.out⟩, ⟨fun j hj => ?_⟩⟩
                    by_cases e : j = kk
                    · subst e
                      rw [HAT.out, HV.out, K5.out]; rfl
                    · exact B.out j (by omega)
              · have k5b : decide ((0 : Int) < (kk : Int)) = true := decide_eq_true (by omega)
                have k5n : decide (0 < kk) = true := decide_eq_true (by omega)
                have K5 : Aside0 (decide (kk = 0) = false) := ⟨decide_eq_false (by omega)⟩
                have k7 : ((kk : Int) - 1).toNat = kk - 1 := by omega
                have k8 : 0 ≤ (kk : Int) - 1 := by omega
                have k8' : 1 ≤ (kk : Int) := by omega
                have k9 : (kk : Int) - 1 < (l.length : Int) := by omega
                have HY := Aside0.mk hye
                have hq0 := pw_cell_below (below_alloc (Below.refl _ _) (.cells #[.string x.f0, .int .i64 x.f1, .int .i64 x.f2, .string x.f3] 107 (0, 0))) hy0
                have hq2 := pw_cell_below (below_alloc (Below.refl _ _) (.cells #[.string x.f0, .int .i64 x.f1, .int .i64 x.f2, .string x.f3] 107 (0, 0))) hy2
                have HQ0 := Aside0.mk hq0
                have HQ2 := Aside0.mk hq2
                clear hye e hy0 hy2 hq0 hq2
                cases hv : (impl_BaseOK.own t x && impl_BaseOK.behind x y) with
                | false =>
                  have HV := Aside0.mk hv
                  have hcl := impl_BaseOK.verSome t (some ad) A2 l.length m.length c1 c2 x.f0 x.f1 x.f2 x.f3 (ad.add ((kk - 1) * 4)) y.f0 y.f1 y.f2 y.f3 (wr.alloc (.cells #[.string x.f0, .int .i64 x.f1, .int .i64 x.f2, .string x.f3] 107 (0, 0))) HT.out HQ0.out HQ2.out
                  rw [hv] at hcl
                  have HCL := Aside0.mk hcl
                  clear hv hcl
                  go_wp2_with (go_at_call 87; (refine (HCL.out).mono ?_); rintro e w3 ⟨rfl, hd⟩; have D3 := Aside0.mk (below_then D1.out D1.out.size hd); have BK3 := Aside0.mk (blk_below BK1.out hd); clear hd)
                  go_ret
                  exact ⟨by rw [impl_BaseOK.all_miss t l kk hlt (by rw [HAT.out, HY.out, K5.out, Bool.false_or, HV.out]; try rfl)]; simp, D3.out⟩
                | true =>
                  have HV := Aside0.mk hv
                  have hcl := impl_BaseOK.verSome t (some ad) A2 l.length m.length c1 c2 x.f0 x.f1 x.f2 x.f3 (ad.add ((kk - 1) * 4)) y.f0 y.f1 y.f2 y.f3 (wr.alloc (.cells #[.string x.f0, .int .i64 x.f1, .int .i64 x.f2, .string x.f3] 107 (0, 0))) HT.out HQ0.out HQ2.out
                  rw [hv] at hcl
                  have HCL := Aside0.mk hcl
                  clear hv hcl
                  go_wp2_with (go_at_call 87; (refine (HCL.out).mono ?_); rintro e w3 ⟨rfl, hd⟩; have D3 := Aside0.mk (below_then D1.out D1.out.size hd); have BK3 := Aside0.mk (blk_below BK1.out hd); clear hd)
                  go_roundg (l.length - (kk + 1))
                  case measure => omega
                  case rel =>
                    refine ⟨kk + 1, by omega, by omega, by go_num, ⟨BK3.out⟩, ⟨D3.out⟩, ⟨fun j hj => ?_⟩⟩
                    by_cases e : j = kk
                    · subst e
                      rw [HAT.out, HY.out, K5.out, Bool.false_or, HV.out]; try rfl
                    · exact B.out j (by omega)
            · have hz : kk = l.length := by omega
              subst hz
              have hltb : decide ((l.length : Int) < (l.length : Int)) = false := decide_eq_false (by omega)
              go_wp2
              go_ret
              exact ⟨by rw [impl_BaseOK.all_hit t l B.out, B2.out, B3.out]; rfl, D.out⟩
      · have b3b : ((m.length : Int) == 4) = false := beq_eq_false_iff_ne.2 b3
        have b3n : ((m.length : Int) != 4) = true := by simp only [bne, b3b]; rfl
        have B3 := Aside0.mk b3b
        clear b3 b3b ha
        go_enter Try.func23, Try.ntmps23
        go_wp2_with (go_at_call 83; (with_reducible refine (impl_within.calls t 0 2000 true _ HW.out).mono ?_); rintro e w' ⟨rfl, ⟨nd, rfl⟩⟩)
        go_ret
        exact ⟨by rw [B2.out, B3.out]; simp, by repeat (first | exact Below.refl _ _ | apply pw_below_drewN | apply below_alloc)⟩

end Go.Proofs.Ytlhmcdafnlcioaa.XV
