-- Written for this claim: a contract of one function, proved by hand; the places of its template filled by a program.
import Derived.Test.YtopajfpfjfbjcaaXP0
import Derived.Test.YtopajfpfjfbjcaaXP6
import Derived.Test.YtopajfpfjfbjcaaXP7
import Derived.Maps.Own
import Derived.Maps.OwnOps
import Derived.Maps.RangeWalk
import Derived.Maps.Views
import Derived.Lib.Walk
import Derived.Shelf.Abstract
import Derived.Test.YtopajfpfjfbjcaaWGuard
namespace Go.Proofs.Ytopajfpfjfbjcaa.XP
open Go Go.RowKit Go.Proofs.YtopajfpfjfbjcaaW.PrintWords Go.Proofs.YtopajfpfjfbjcaaW.PrintLast Go.Proofs.YtopajfpfjfbjcaaW.PrintMore
set_option linter.unusedVariables false
set_option linter.unusedSimpArgs false
open Go.Proofs.Ytopajfpfjfbjcaa.Xtra Go.Maps
abbrev impl_HistoryOK.T := S47
/-- Is it an act, and an end: what the two functions tell. -/
def impl_HistoryOK.op (x : impl_HistoryOK.T) : Bool := (impl_HOp_isOp.f x.f0 x.f1 x.f2 x.f3).getD false
def impl_HistoryOK.en (x : Int) : Bool := (impl_isEnd.f x).getD false
theorem impl_HistoryOK.en_some (x : Int) : impl_isEnd.f x = some (impl_HistoryOK.en x) := by
  unfold impl_HistoryOK.en impl_isEnd.f
  split <;> rfl
theorem impl_HistoryOK.op_tot (x y : Int) (z u : ByteArray) : ∃ b, impl_HOp_isOp.f x y z u = some b := by
  have hw : ∀ a b c, ∃ r, impl_within.f a b c = some r := by
    intro a b c
    unfold impl_within.f
    split <;> exact ⟨_, rfl⟩
  have ht : ∀ a, ∃ r, impl_isTx.f a = some r := by
    intro a
    unfold impl_isTx.f
    obtain ⟨r, h⟩ := hw a 0 5
    rw [h]
    exact ⟨_, rfl⟩
  have hk : ∀ a, ∃ r, impl_isKey.f a = some r := by
    intro a
    unfold impl_isKey.f
    first
      | (obtain ⟨r, h⟩ := hw (a.size : Int) 1 80; rw [h]; exact ⟨_, rfl⟩)
      | exact ⟨_, rfl⟩
      | (split <;> exact ⟨_, rfl⟩)
  have hd : ∀ a, ∃ r, impl_isDatum.f a = some r := by
    intro a
    unfold impl_isDatum.f
    first
      | exact ⟨_, rfl⟩
      | (split <;> exact ⟨_, rfl⟩)
  obtain ⟨b1, h1⟩ := ht x
  obtain ⟨b2, h2⟩ := hk z
  obtain ⟨b3, h3⟩ := hd u
  unfold impl_HOp_isOp.f
  simp only [h1, h2, h3, Option.bind_some]
  repeat' (first | exact ⟨_, rfl⟩ | split)
theorem impl_HistoryOK.op_some (x : impl_HistoryOK.T) : impl_HOp_isOp.f x.f0 x.f1 x.f2 x.f3 = some (impl_HistoryOK.op x) := by
  obtain ⟨b, h⟩ := impl_HistoryOK.op_tot x.f0 x.f1 x.f2 x.f3
  unfold impl_HistoryOK.op
  rw [h]
  rfl
/-- An act's transaction and kind are small numbers. -/
theorem impl_HistoryOK.op_small (x : impl_HistoryOK.T) (h : impl_HistoryOK.op x = true) : 0 ≤ x.f0 ∧ x.f0 ≤ 5 ∧ 1 ≤ x.f1 ∧ x.f1 ≤ 4 := by
  have hs := impl_HistoryOK.op_some x
  rw [h] at hs
  unfold impl_HOp_isOp.f at hs
  have ht : ∀ {β : Type} (g : Bool → Option β) (r : β), (impl_isTx.f x.f0).bind g = some r → (0 ≤ x.f0 ∧ x.f0 ≤ 5) ∨ g false = some r := by
    intro β g r hh
    unfold impl_isTx.f impl_within.f at hh
    by_cases c1 : x.f0 ≥ 0
    · by_cases c2 : x.f0 ≤ 5
      · exact .inl ⟨c1, c2⟩
      · right
        simpa [c1, c2] using hh
    · right
      simpa [c1] using hh
  by_cases k1 : x.f1 = 1
  · rw [if_pos k1] at hs
    rcases ht _ _ hs with h0 | h0
    · exact ⟨h0.1, h0.2, by omega, by omega⟩
    · simp at h0
  rw [if_neg k1] at hs
  by_cases k2 : x.f1 = 2
  · rw [if_pos k2] at hs
    rcases ht _ _ hs with h0 | h0
    · exact ⟨h0.1, h0.2, by omega, by omega⟩
    · simp at h0
  rw [if_neg k2] at hs
  by_cases k3 : x.f1 = 3
  · rw [if_pos k3] at hs
    rcases ht _ _ hs with h0 | h0
    · exact ⟨h0.1, h0.2, by omega, by omega⟩
    · simp at h0
  rw [if_neg k3] at hs
  by_cases k4 : x.f1 = 4
  · rw [if_pos k4] at hs
    rcases ht _ _ hs with h0 | h0
    · exact ⟨h0.1, h0.2, by omega, by omega⟩
    · simp at h0
  · rw [if_neg k4] at hs
    simp at hs
/-- The last act of each, written over. -/
def impl_HistoryOK.st (m : Int → Int) (x : impl_HistoryOK.T) : Int → Int := fun t => if t = x.f0 then x.f1 else m t
def impl_HistoryOK.scan : List impl_HistoryOK.T → (Int → Int) → Option (Int → Int)
  | [], m => some m
  | x :: xs, m => if (impl_HistoryOK.op x && !impl_HistoryOK.en (m x.f0)) = true then impl_HistoryOK.scan xs (impl_HistoryOK.st m x) else none
def impl_HistoryOK.fin (l : List impl_HistoryOK.T) : Option (Int → Int) → Bool
  | none => false
  | some m => l.all fun x => impl_HistoryOK.en (m x.f0)
def impl_HistoryOK.f (l0 : List impl_HistoryOK.T) : Option Bool := some (if (l0.length : Int) > 60 then false else impl_HistoryOK.fin l0 (impl_HistoryOK.scan l0 fun _ => 0))

theorem impl_HistoryOK.law : Keyed Try.prog 3 := int_keyed Try.underlying3
theorem impl_HistoryOK.zero (w : World) : (zeroValue 3).run Try.prog w = .ok (.int .i64 0) w := by kernel_rfl
/-- What the map tells: at each number the last act's kind; its keys are the transactions. -/
structure impl_HistoryOK.Rel (D : DataW Unit) (m : Int → Int) (pre : List impl_HistoryOK.T) : Prop where
  isMap : IsMap D
  at_ : ∀ t, D.atKey (.int .i64 t) (.lit (.int .i64 0)) = .lit (.int .i64 (m t))
  keys : ∀ t, has D (.int .i64 t) = true → ∃ x ∈ pre, x.f0 = t
  back : ∀ x ∈ pre, has D (.int .i64 x.f0) = true
theorem impl_HistoryOK.Rel.start : impl_HistoryOK.Rel (.map []) (fun _ => 0) [] :=
  ⟨isMap_empty, fun _ => atKey_of_not_has rfl _, fun t h => by simp [has_eq] at h, fun x hx => by simp at hx⟩
theorem impl_HistoryOK.Rel.step {D : DataW Unit} {m : Int → Int} {pre : List impl_HistoryOK.T} (h : impl_HistoryOK.Rel D m pre) (x : impl_HistoryOK.T) : impl_HistoryOK.Rel (D.put (.int .i64 x.f0) (.lit (.int .i64 x.f1))) (impl_HistoryOK.st m x) (pre ++ [x]) := by
  refine ⟨h.isMap.put _ _, fun t => ?_, fun t ht => ?_, fun y hy => ?_⟩
  · unfold impl_HistoryOK.st
    by_cases e : t = x.f0
    · subst e
      rw [if_pos rfl, atKey_put_same (k := .int .i64 x.f0) h.isMap trivial]
    · rw [if_neg e, atKey_put_other (fun q => e (by injection q))]
      exact h.at_ t
  · by_cases e : t = x.f0
    · exact ⟨x, by simp, e.symm⟩
    · rw [has_put_other (fun q => e (by injection q))] at ht
      obtain ⟨y, hy, hyt⟩ := h.keys t ht
      exact ⟨y, by simp [hy], hyt⟩
  · by_cases e : y.f0 = x.f0
    · rw [e]
      exact has_put_same (k := .int .i64 x.f0) h.isMap trivial _
    · rw [has_put_other (fun q => e (by injection q))]
      rcases List.mem_append.1 hy with hy | hy
      · exact h.back y hy
      · simp at hy
        subst hy
        exact absurd rfl e
theorem impl_HistoryOK.wf_small {t : Int} (h0 : 0 ≤ t) (h1 : t ≤ 100) : (Lit.int .i64 t).wf = true := by
  simp [Lit.wf, IntKind.min, IntKind.max, IntKind.signed, IntKind.bits]
  omega
theorem impl_HistoryOK.scan_step (l : List impl_HistoryOK.T) (i : Nat) (h : i < l.length) (m : Int → Int) :
    impl_HistoryOK.scan (l.drop i) m = if (impl_HistoryOK.op l[i] && !impl_HistoryOK.en (m (l[i]).f0)) = true then impl_HistoryOK.scan (l.drop (i + 1)) (impl_HistoryOK.st m l[i]) else none := by
  rw [List.drop_eq_getElem_cons h]
  rfl
theorem impl_HistoryOK.scan_end (l : List impl_HistoryOK.T) (m : Int → Int) : impl_HistoryOK.scan (l.drop l.length) m = some m := by
  rw [List.drop_length]
  rfl
set_option maxHeartbeats 4000000 in
set_option maxRecDepth 100000 in
theorem impl_HistoryOK.calls (A0 : Option Addr) (c0 : Nat) (l0 : List S47) (r : Bool) (w : World) (hr0 : Kd.C k47 w A0 l0.length l0) (hc0 : l0.length ≤ c0) (h : impl_HistoryOK.f l0 = some r) :
    Calls Try.prog 46 #[.slice A0 l0.length c0] w fun e w' => e = .returned (.bool r) ∧ Below w.heap.size w w' := by
  obtain rfl := Option.some.inj h
  clear h
  have HR := Aside0.mk hr0
  have hm : l0.length ≤ 9223372036854775807 := hr0.2.1
  clear hr0
  have hu := Try.underlying47
  have hmm := @run_makeMap Try.prog
  by_cases hl : (l0.length : Int) > 60
  · rw [if_pos hl]
    have hl1 : decide ((60 : Int) < (l0.length : Int)) = true := decide_eq_true hl
    go_enter Try.func46, Try.ntmps46
    go_wp2
    go_ret
    exact ⟨rfl, Below.refl _ _⟩
  rw [if_neg hl]
  have hl1 : decide ((60 : Int) < (l0.length : Int)) = false := decide_eq_false hl
  have hlen : l0.length ≤ 60 := by omega
  clear hl
  go_enter Try.func46, Try.ntmps46
  go_wp2
  go_loopg [14] l0.length (fun gg s14 wr => ∃ (kk : Nat) (m : Int → Int) (D : DataW Unit), kk ≤ l0.length ∧ l0.length - kk ≤ gg ∧ s14 = .int .i64 kk ∧ Aside0 (impl_HistoryOK.scan l0 (fun _ => 0) = impl_HistoryOK.scan (l0.drop kk) m) ∧ Aside0 (impl_HistoryOK.Rel D m (l0.take kk)) ∧ Aside0 (wr.ownsMap Try.prog 3 (plainElem Try.prog 3) w.heap.size kk D) ∧ Aside0 (Below w.heap.size w wr))
  case atStart => exact ⟨0, fun _ => 0, .map [], Nat.zero_le _, by omega, rfl, ⟨rfl⟩, ⟨impl_HistoryOK.Rel.start⟩, ⟨World.ownsMap_made _ _ _ _⟩, ⟨(Below.refl _ _).alloc (Nat.le_refl _) _⟩⟩
  case round =>
    obtain ⟨kk, m, D, hkk, hg, rfl, HS, HD, HO, HB⟩ := hrel
    by_cases hlt : kk < l0.length
    · have hltz : (kk : Int) < (l0.length : Int) := by omega
      have hlz : decide ((kk : Int) < (l0.length : Int)) = true := decide_eq_true hltz
      obtain ⟨ad, rfl, hx0, hx1, hx2, hx3⟩ := at_T47 (Kd.C_below HR.out HB.out) (kk : Int) (by omega) hltz
      rw [Int.toNat_natCast] at hx0 hx1 hx2 hx3
      have hst := impl_HistoryOK.scan_step l0 kk hlt m
      obtain ⟨x, hx⟩ : ∃ x, x = rd_T47 l0 (kk : Int) := ⟨_, rfl⟩
      have hxl : x = l0[kk] := by rw [hx]; simp [rd_T47, List.getD_eq_getElem?_getD, List.getElem?_eq_getElem hlt]
      rw [← hx] at hx0 hx1 hx2 hx3
      rw [← hxl] at hst
      have HX := Aside0.mk hxl
      clear hx hxl
      have HST := Aside0.mk hst
      clear hst
      have hop := impl_HistoryOK.op_some x
      cases ho : impl_HistoryOK.op x with
      | false =>
        rw [ho] at hop
        have HOP := Aside0.mk hop
        have HQ := Aside0.mk ho
        clear hop ho
        go_wp2_with (go_at_call 58; (with_reducible refine (impl_HOp_isOp.calls x.f0 x.f1 x.f2 x.f3 false _ HOP.out).mono ?_); rintro e w' ⟨rfl, hb⟩; have D2 := Aside0.mk (below_then (below_alloc HB.out _) (below_alloc HB.out _).size hb); clear hb)
        go_ret
        refine ⟨?_, D2.out⟩
        have : impl_HistoryOK.scan l0 (fun _ => 0) = none := by rw [HS.out, HST.out, HQ.out]; rfl
        rw [this]
        rfl
      | true =>
        have hsm := impl_HistoryOK.op_small x ho
        rw [ho] at hop
        have HOP := Aside0.mk hop
        have HQ := Aside0.mk ho
        have HSM := Aside0.mk hsm
        clear hop ho hsm
        cases he : impl_HistoryOK.en (m x.f0) with
        | true =>
          have HE := Aside0.mk he
          clear he
          go_wp2_with (first
            | (go_at_call 58; (with_reducible refine (impl_HOp_isOp.calls x.f0 x.f1 x.f2 x.f3 true _ HOP.out).mono ?_); rintro e w' ⟨rfl, hb⟩; have D2 := Aside0.mk (below_then (below_alloc HB.out _) (below_alloc HB.out _).size hb); have BX := blk_below (blk_new wr (.cells #[.int .i64 x.f0, .int .i64 x.f1, .string x.f2, .string x.f3] 47)) hb; have HO2 := Aside0.mk ((HO.out.alloc (.cells #[.int .i64 x.f0, .int .i64 x.f1, .string x.f2, .string x.f3] 47)).kept (grown_of_below hb none) (by simp)); clear hb; have hb0 := (blk_cell BX 0).trans rfl; have hb1 := (blk_cell BX 1).trans rfl; clear BX)
            | (at_lookup; (try (refine gate_guard (by rfl) ?_; dsimp only)); refine wpList_lookup_own_int _ rfl _ _ 89 rfl 3 3 .i64 impl_HistoryOK.law Try.underlying89 Try.underlying3 (impl_HistoryOK.zero _) w.heap.size kk _ rfl HO2.out _ _ rfl (keyOf_int_mk Try.underlying3 (impl_HistoryOK.wf_small HSM.out.1 (Int.le_trans HSM.out.2.1 (by omega)))) ?_; intro c hat hwc; obtain rfl : c = m x.f0 := (by have h_ := hat.symm.trans (HD.out.at_ x.f0); injection h_ with h_; injection h_); clear hat hwc)
            | (go_at_call 28; (with_reducible refine (impl_isEnd.calls (m x.f0) true _ ((impl_HistoryOK.en_some _).trans (congrArg some HE.out))).mono ?_); rintro e w2 ⟨rfl, ⟨nd, rfl⟩⟩))
          go_ret
          refine ⟨?_, pw_below_drewN D2.out _⟩
          have : impl_HistoryOK.scan l0 (fun _ => 0) = none := by rw [HS.out, HST.out, HQ.out, HE.out]; rfl
          rw [this]
          rfl
        | false =>
          have HE := Aside0.mk he
          clear he
          go_wp2_with (first
            | (go_at_call 58; (with_reducible refine (impl_HOp_isOp.calls x.f0 x.f1 x.f2 x.f3 true _ HOP.out).mono ?_); rintro e w' ⟨rfl, hb⟩; have D2 := Aside0.mk (below_then (below_alloc HB.out _) (below_alloc HB.out _).size hb); have BX := blk_below (blk_new wr (.cells #[.int .i64 x.f0, .int .i64 x.f1, .string x.f2, .string x.f3] 47)) hb; have HO2 := Aside0.mk ((HO.out.alloc (.cells #[.int .i64 x.f0, .int .i64 x.f1, .string x.f2, .string x.f3] 47)).kept (grown_of_below hb none) (by simp)); clear hb; have hb0 := (blk_cell BX 0).trans rfl; have hb1 := (blk_cell BX 1).trans rfl; clear BX)
            | (at_lookup; (try (refine gate_guard (by rfl) ?_; dsimp only)); refine wpList_lookup_own_int _ rfl _ _ 89 rfl 3 3 .i64 impl_HistoryOK.law Try.underlying89 Try.underlying3 (impl_HistoryOK.zero _) w.heap.size kk _ rfl HO2.out _ _ rfl (keyOf_int_mk Try.underlying3 (impl_HistoryOK.wf_small HSM.out.1 (Int.le_trans HSM.out.2.1 (by omega)))) ?_; intro c hat hwc; obtain rfl : c = m x.f0 := (by have h_ := hat.symm.trans (HD.out.at_ x.f0); injection h_ with h_; injection h_); clear hat hwc)
            | (go_at_call 28; (with_reducible refine (impl_isEnd.calls (m x.f0) false _ ((impl_HistoryOK.en_some _).trans (congrArg some HE.out))).mono ?_); rintro e w2 ⟨rfl, ⟨nd, rfl⟩⟩)
            | (at_mapUpdate; refine wpList_mapUpdate_own _ rfl _ _ _ 89 rfl 3 3 impl_HistoryOK.law Try.underlying89 _ w.heap.size kk _ rfl HO2.out (by unfold maxLen; omega) _ _ _ rfl rfl (keyOf_int_mk Try.underlying3 (impl_HistoryOK.wf_small HSM.out.1 (Int.le_trans HSM.out.2.1 (by omega)))) _ [] (plainElem_int Try.underlying3 (impl_HistoryOK.wf_small (Int.le_trans (by omega) HSM.out.2.2.1) (Int.le_trans HSM.out.2.2.2 (by omega)))) ?_; intro w1 hown1 hgrow1))
          have hB3 : Below w.heap.size w w1 := (pw_below_drewN D2.out _).grown hgrow1 (pw_below_drewN D2.out _).size (fun j hj => by cases hj; exact Nat.le_refl _)
          have ht : l0.take (kk + 1) = l0.take kk ++ [x] := by rw [List.take_succ_eq_append_getElem hlt, HX.out]
          go_roundg (l0.length - (kk + 1))
          case measure => omega
          case rel =>
            refine ⟨kk + 1, impl_HistoryOK.st m x, D.put (.int .i64 x.f0) (.lit (.int .i64 x.f1)), by omega, by omega, by go_num, ⟨?_⟩, ⟨by rw [ht]; exact HD.out.step x⟩, ⟨hown1⟩, ⟨hB3⟩⟩
            rw [HS.out, HST.out, HQ.out, HE.out]
            rfl
    · have hz : kk = l0.length := by omega
      subst hz
      have hend : impl_HistoryOK.scan l0 (fun _ => 0) = some m := HS.out.trans (impl_HistoryOK.scan_end l0 m)
      have HEND := Aside0.mk hend
      have hrel2 : impl_HistoryOK.Rel D m l0 := by have := HD.out; rwa [List.take_of_length_le (Nat.le_refl _)] at this
      have HD2 := Aside0.mk hrel2
      clear HS HD hend hrel2
      have hge : w.heap.size ≤ wr.heap.size := HB.out.size
      go_wp2_with (first
        | (at_range; refine wpList_range_own _ rfl _ 89 rfl 3 3 impl_HistoryOK.law Try.underlying89 _ w.heap.size l0.length _ rfl HO.out ?_; intro w0 hrg0 hg0 hs0)
        | go_in)
      obtain ⟨rho, hrho⟩ : ∃ rho, rho = wr.heap.size := ⟨_, rfl⟩
      rw [← hrho] at hrg0 hge ⊢
      clear hrho
      have HW0 := Aside0.mk (HB.out.grown hg0 HB.out.size (fun j hj => by cases hj))
      go_frame
      go_loopw [7] (fun _ wq => ∃ (left : Lit → Bool) (cnt : Nat), wq.ranges Try.prog 3 (plainElem Try.prog 3) w.heap.size rho l0.length D left cnt ∧ Below w.heap.size w wq ∧ Aside0 (∀ t, has D (.int .i64 t) = true → left (.int .i64 t) = false → impl_HistoryOK.en (m t) = true))
        (fun _ wq => wq.rangeLeft w.heap.size rho)
      case atStart => exact ⟨_, _, hrg0, HW0.out, ⟨fun t h1 h2 => by rw [h1] at h2; cases h2⟩⟩
      case round =>
        obtain ⟨left, cnt, hrg, hB, HL⟩ := hrel
        go_wp2_with (first
          | (at_next; refine wpList_next_ranges_ii _ rfl _ rfl 3 3 .i64 .i64 impl_HistoryOK.law Try.underlying3 Try.underlying3 w.heap.size rho l0.length _ _ _ rfl hrg ?_ ?_)
          | go_in)
        · intro _ hl0
          go_wp2
          go_ret
          refine ⟨?_, hB⟩
          rw [HEND.out]
          have : impl_HistoryOK.fin l0 (some m) = true := by
            show l0.all _ = true
            rw [List.all_eq_true]
            exact fun y hy => HL.out y.f0 (HD2.out.back y hy) (hl0 _)
          rw [this]
          rfl
        · intro x c w1 cnt1 hwx hwc hlx hat hrg1 hlt hg1 hs1 hen
          obtain rfl : c = m x := by
            have h_ := (hat (.lit (.int .i64 0))).symm.trans (HD2.out.at_ x)
            injection h_ with h_
            injection h_
          have hB1 : Below w.heap.size w w1 := hB.grown hg1 hB.size (fun j hj => by cases hj; exact hge)
          cases he : impl_HistoryOK.en (m x) with
          | true =>
            have HE := Aside0.mk he
            clear he
            go_wp2_with (go_at_call 28; (with_reducible refine (impl_isEnd.calls (m x) true _ ((impl_HistoryOK.en_some _).trans (congrArg some HE.out))).mono ?_); rintro e w2 ⟨rfl, ⟨nd, rfl⟩⟩)
            have HL1 : ∀ t, has D (.int .i64 t) = true → (left (.int .i64 t) && !(Lit.int .i64 t).sameKey (.int .i64 x)) = false → impl_HistoryOK.en (m t) = true := by
              intro t h1 h2
              by_cases e : t = x
              · rw [e]
                exact HE.out
              · refine HL.out t h1 ?_
                have hk : (Lit.int .i64 t).sameKey (.int .i64 x) = false := sameKey_ne (fun q => e (by injection q))
                rw [hk] at h2
                simpa using h2
            go_roundw
            case rel =>
              exact ⟨_, cnt1, hrg1.kept (grown_of_below (pw_below_drewN (Below.refl w1.heap.size w1) nd) none) (by simp) (by simp), pw_below_drewN hB1 _, ⟨HL1⟩⟩
            case measure =>
              rw [hrg.left_eq]
              show w1.rangeLeft _ _ < _
              rw [hrg1.left_eq]
              exact hlt
          | false =>
            have HE := Aside0.mk he
            clear he
            go_wp2_with (go_at_call 28; (with_reducible refine (impl_isEnd.calls (m x) false _ ((impl_HistoryOK.en_some _).trans (congrArg some HE.out))).mono ?_); rintro e w2 ⟨rfl, ⟨nd, rfl⟩⟩)
            go_ret
            refine ⟨?_, pw_below_drewN hB1 _⟩
            rw [HEND.out]
            obtain ⟨y, hy, hyx⟩ := HD2.out.keys x (has_true_of_atKey hat)
            have : impl_HistoryOK.fin l0 (some m) = false := by
              show l0.all _ = false
              rw [List.all_eq_false]
              exact ⟨y, hy, by rw [hyx, HE.out]; simp⟩
            rw [this]
            rfl

end Go.Proofs.Ytopajfpfjfbjcaa.XP
