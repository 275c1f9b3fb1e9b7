-- Written for this claim: a contract of one function, proved by hand; the places of its template filled by a program.
import Derived.Test.YtnljfjicopffbaaXR0
import Derived.Test.YtnljfjicopffbaaXR3
import Derived.Test.YtnljfjicopffbaaXRHrowOK
import Derived.Lib.SlBy
import Derived.Lib.Walk
import Derived.Shelf.Abstract
namespace Go.Proofs.Ytnljfjicopffbaa.XR
open Go Go.RowKit Go.Proofs.YtnljfjicopffbaaW.PrintWords Go.Proofs.YtnljfjicopffbaaW.PrintLast Go.Proofs.YtnljfjicopffbaaW.PrintMore
set_option linter.unusedVariables false
set_option linter.unusedSimpArgs false
open Go.Proofs.Ytnljfjicopffbaa.Xtra
/-- Two rows, value by value. -/
def impl_CompareRows.c : Nat → List S27 → List S27 → Option Int
  | _, [], [] => some 0
  | _, [], _ :: _ => some (-1)
  | _, _ :: _, [] => some 1
  | k, x :: xs, y :: ys => (impl_compareValues.f k x.f0 x.f1 x.f2 y.f0 y.f1 y.f2).bind fun c => if c = 0 then impl_CompareRows.c k xs ys else some c
theorem impl_CompareRows.c_mono : ∀ (l m : List S27) (k : Nat), LeO (impl_CompareRows.c k l m) (impl_CompareRows.c (k + 1) l m)
  | [], [], _ => LeO.refl _
  | [], _ :: _, _ => LeO.refl _
  | _ :: _, [], _ => LeO.refl _
  | x :: xs, y :: ys, k => by
    simp only [impl_CompareRows.c]
    refine LeO.bind (impl_compareValues.mono _ _ _ _ _ _ k) (fun c => LeO.ite (impl_CompareRows.c_mono xs ys k) (LeO.refl _))
theorem impl_CompareRows.c_step (k : Nat) (l m : List S27) (i : Nat) (hl : i < l.length) (hm : i < m.length) :
    impl_CompareRows.c k (l.drop i) (m.drop i) = (impl_compareValues.f k (rd_T27 l i).f0 (rd_T27 l i).f1 (rd_T27 l i).f2 (rd_T27 m i).f0 (rd_T27 m i).f1 (rd_T27 m i).f2).bind fun c => if c = 0 then impl_CompareRows.c k (l.drop (i + 1)) (m.drop (i + 1)) else some c := by
  rw [List.drop_eq_getElem_cons hl, List.drop_eq_getElem_cons hm]
  simp [impl_CompareRows.c, rd_T27, List.getD_eq_getElem?_getD, List.getElem?_eq_getElem hl, List.getElem?_eq_getElem hm]
theorem impl_CompareRows.c_end1 (k : Nat) (l m : List S27) (i : Nat) (hl : i < l.length) (hm : m.length ≤ i) : impl_CompareRows.c k (l.drop i) (m.drop i) = some 1 := by
  rw [List.drop_eq_getElem_cons hl, List.drop_eq_nil_of_le hm]
  rfl
theorem impl_CompareRows.c_end2 (k : Nat) (l m : List S27) : impl_CompareRows.c k (l.drop l.length) (m.drop l.length) = some (if l.length < m.length then -1 else 0) := by
  rw [List.drop_length]
  by_cases h : l.length < m.length
  · rw [List.drop_eq_getElem_cons h, if_pos h]
    rfl
  · rw [List.drop_eq_nil_of_le (by omega), if_neg h]
    rfl
def impl_CompareRows.f (k : Nat) (l0 l1 : List S27) : Option (Int × Int) :=
  if (l0.length : Int) > 4096 ∨ (l1.length : Int) > 4096 then some (0, 2) else
  (impl_rowOK.f l0).bind fun a => if a = true then (impl_rowOK.f l1).bind fun b => if b = true then (impl_CompareRows.c k l0 l1).bind fun c => some (c, 0) else some (0, 1) else some (0, 1)
theorem impl_CompareRows.mono : ∀ l0 l1 k, LeO (impl_CompareRows.f k l0 l1) (impl_CompareRows.f (k + 1) l0 l1) := by
  intro l0 l1 k
  unfold impl_CompareRows.f
  refine LeO.ite (LeO.refl _) (LeO.bind (LeO.refl _) (fun a => LeO.ite (LeO.bind (LeO.refl _) (fun b => LeO.ite (LeO.bind (impl_CompareRows.c_mono l0 l1 k) (fun c => LeO.refl _)) (LeO.refl _))) (LeO.refl _)))
set_option maxHeartbeats 4000000 in
theorem impl_CompareRows.cmp (k : Nat) (A0 A1 : Option Addr) (c0 c1 : Nat) (l0 l1 : List S27) (r : Int) (w : World) (hr0 : Kd.C k27 w A0 l0.length l0) (hr1 : Kd.C k27 w A1 l1.length l1) (h : impl_CompareRows.c k l0 l1 = some r) :
    Calls Try.prog 42 #[.slice A0 l0.length c0, .slice A1 l1.length c1, .func (.func 36) #[] #[]] w fun e w' => e = .returned (.int .i64 r) ∧ Below w.heap.size w w' := by
  have hu := Try.underlying27
  have hm0 : l0.length ≤ 9223372036854775807 := hr0.2.1
  have hm1 : l1.length ≤ 9223372036854775807 := hr1.2.1
  have HR0 := Aside0.mk hr0
  have HR1 := Aside0.mk hr1
  have H' : Aside0 (impl_CompareRows.c k (l0.drop 0) (l1.drop 0) = some r) := ⟨by simpa using h⟩
  clear hr0 hr1 h
  go_enter Try.func42, Try.ntmps42
  go_wp2
  go_loopg [13] l0.length (fun gg s13 wr => ∃ kk : Nat, kk ≤ l0.length ∧ kk ≤ l1.length ∧ l0.length - kk ≤ gg ∧ s13 = .int .i64 kk ∧ Aside0 (Below w.heap.size w wr) ∧ Aside0 (impl_CompareRows.c k (l0.drop kk) (l1.drop kk) = some r))
  case atStart => exact ⟨0, Nat.zero_le _, Nat.zero_le _, by omega, rfl, ⟨Below.refl _ _⟩, H'⟩
  case round =>
    clear H'
    obtain ⟨kk, hk0, hk1, hg, rfl, D, HA⟩ := hrel
    by_cases hlt : kk < l0.length
    · have hltz : (kk : Int) < (l0.length : Int) := by omega
      obtain ⟨ad0, e0, hx0, hx1, hx2⟩ := at_T27 (Kd.C_below HR0.out D.out) (kk : Int) (by omega) hltz
      have hlz0 : decide ((kk : Int) < (l0.length : Int)) = true := decide_eq_true hltz
      by_cases hlt1 : kk < l1.length
      · have hltz1 : (kk : Int) < (l1.length : Int) := by omega
        obtain ⟨ad1, e1, hy0, hy1, hy2⟩ := at_T27 (Kd.C_below HR1.out D.out) (kk : Int) (by omega) hltz1
        subst e0
        subst e1
        rw [Int.toNat_natCast] at hx0 hx1 hx2 hy0 hy1 hy2
        have H := HA.out
        rw [impl_CompareRows.c_step k l0 l1 kk hlt hlt1] at H
        obtain ⟨t1, HT, H⟩ := Option.bind_eq_some_iff.mp H
        have HT := Aside0.mk HT
        have H := Aside0.mk H
        have hz0 := fun o => pw_cell_below (below_alloc (Below.refl wr.heap.size wr) o) hy0
        have hz1 := fun o => pw_cell_below (below_alloc (Below.refl wr.heap.size wr) o) hy1
        have hz2 := fun o => pw_cell_below (below_alloc (Below.refl wr.heap.size wr) o) hy2
        have hge : decide (l1.length ≤ kk) = false := decide_eq_false (by omega)
        have HC : Aside0 (∀ W, Below w.heap.size w W → Calls Try.prog 36 #[.agg #[.int .i64 (rd_T27 l0 kk).f0, .int .i64 (rd_T27 l0 kk).f1, .string (rd_T27 l0 kk).f2], .agg #[.int .i64 (rd_T27 l1 kk).f0, .int .i64 (rd_T27 l1 kk).f1, .string (rd_T27 l1 kk).f2]] W fun e w' => e = .returned (.int .i64 t1) ∧ Below w.heap.size w w') :=
          ⟨fun W hW => (impl_compareValues.calls k _ _ _ _ _ _ t1 W HT.out).mono fun e w' he => ⟨he.1, below_then hW hW.size he.2⟩⟩
        have DA := fun o => below_alloc D.out o
        by_cases ht : t1 = 0
        · subst ht
          have H2 : Aside0 (impl_CompareRows.c k (l0.drop (kk + 1)) (l1.drop (kk + 1)) = some r) := ⟨by simpa using H.out⟩
          clear H HT
          go_wp2_with (go_at_call 36; refine (HC.out _ ?hB).mono ?_; (case hB => exact below_alloc (below_alloc D.out _) _); rintro e w' ⟨rfl, hb⟩)
          go_roundg (l0.length - (kk + 1))
          case measure => omega
          case rel => exact ⟨kk + 1, by omega, by omega, by omega, by go_num, ⟨hb⟩, H2⟩
        · have hne : decide (t1 = 0) = false := decide_eq_false ht
          have HE := Aside0.mk (Option.some.inj (by simpa [ht] using H.out))
          clear H HT
          go_wp2_with (go_at_call 36; refine (HC.out _ ?hB).mono ?_; (case hB => exact below_alloc (below_alloc D.out _) _); rintro e w' ⟨rfl, hb⟩)
          go_ret
          obtain rfl := HE.out
          exact ⟨rfl, hb⟩
      · have hge : decide (l1.length ≤ kk) = true := decide_eq_true (by omega)
        subst e0
        rw [Int.toNat_natCast] at hx0 hx1 hx2
        have H := HA.out
        rw [impl_CompareRows.c_end1 k l0 l1 kk hlt (by omega)] at H
        have HE := Aside0.mk (Option.some.inj H)
        clear H HA
        have DA := fun o => below_alloc D.out o
        have DA := Aside0.mk DA
        go_wp2
        go_ret
        exact ⟨by rw [← HE.out]; rfl, DA.out _⟩
    · have hz : kk = l0.length := by omega
      subst hz
      have H := HA.out
      rw [impl_CompareRows.c_end2 k l0 l1] at H
      have HE := Aside0.mk (Option.some.inj H)
      clear H HA
      by_cases hll : l0.length < l1.length
      · have hl1 : decide (l0.length < l1.length) = true := decide_eq_true hll
        go_wp2
        go_ret
        exact ⟨by rw [← HE.out, if_pos hll]; rfl, D.out⟩
      · have hl1 : decide (l0.length < l1.length) = false := decide_eq_false hll
        go_wp2
        go_ret
        exact ⟨by rw [← HE.out, if_neg hll]; rfl, D.out⟩
set_option maxHeartbeats 4000000 in
theorem impl_CompareRows.calls (k : Nat) (A0 : Option Addr) (c0 : Nat) (l0 : List S27) (A1 : Option Addr) (c1 : Nat) (l1 : List S27) (r1 r2 : Int) (w : World) (hr0 : Kd.C k27 w A0 l0.length l0) (hc0 : l0.length ≤ c0) (hr1 : Kd.C k27 w A1 l1.length l1) (hc1 : l1.length ≤ c1) (h : impl_CompareRows.f k l0 l1 = some (r1, r2)) :
    Calls Try.prog 21 #[.slice A0 l0.length c0, .slice A1 l1.length c1] w fun e w' => e = .returned (.tuple #[.int .i64 r1, .int .i64 r2]) ∧ Below w.heap.size w w' := by
  unfold impl_CompareRows.f at h
  have HR0 := Aside0.mk hr0
  have HR1 := Aside0.mk hr1
  clear hr0 hr1
  by_cases h0 : (l0.length : Int) > 4096
  · rw [if_pos (Or.inl h0)] at h
    obtain ⟨rfl, rfl⟩ := Prod.mk.inj (Option.some.inj h)
    have b0 : decide ((4096 : Int) < (l0.length : Int)) = true := decide_eq_true h0
    go_enter Try.func21, Try.ntmps21
    go_wp2
    go_ret2
    exact ⟨rfl, Below.refl _ _⟩
  by_cases h1 : (l1.length : Int) > 4096
  · rw [if_pos (Or.inr h1)] at h
    obtain ⟨rfl, rfl⟩ := Prod.mk.inj (Option.some.inj h)
    have b0 : decide ((4096 : Int) < (l0.length : Int)) = false := decide_eq_false h0
    have b1 : decide ((4096 : Int) < (l1.length : Int)) = true := decide_eq_true h1
    go_enter Try.func21, Try.ntmps21
    go_wp2
    go_ret2
    exact ⟨rfl, Below.refl _ _⟩
  rw [if_neg (fun hc => hc.elim h0 h1)] at h
  have b0 : decide ((4096 : Int) < (l0.length : Int)) = false := decide_eq_false h0
  have b1 : decide ((4096 : Int) < (l1.length : Int)) = false := decide_eq_false h1
  clear h0 h1
  obtain ⟨a, HA, h⟩ := Option.bind_eq_some_iff.mp h
  have HA := Aside0.mk HA
  cases a with
  | false =>
    obtain ⟨rfl, rfl⟩ := Prod.mk.inj (Option.some.inj h)
    go_enter Try.func21, Try.ntmps21
    go_wp2_with (go_at_call 41; (with_reducible refine (impl_rowOK.calls A0 c0 l0 false _ HR0.out hc0 HA.out).mono ?_); rintro e w' ⟨rfl, hb⟩)
    go_ret2
    exact ⟨rfl, hb⟩
  | true =>
    rw [if_pos rfl] at h
    obtain ⟨b, HB, h⟩ := Option.bind_eq_some_iff.mp h
    have HB := Aside0.mk HB
    cases b with
    | false =>
      obtain ⟨rfl, rfl⟩ := Prod.mk.inj (Option.some.inj h)
      go_enter Try.func21, Try.ntmps21
      go_wp2_with (first | (go_at_call 41; (with_reducible refine (impl_rowOK.calls A0 c0 l0 true _ HR0.out hc0 HA.out).mono ?_); rintro e w' ⟨rfl, hb⟩; have D := Aside0.mk hb; clear hb) | (go_at_call 41; (with_reducible refine (impl_rowOK.calls A1 c1 l1 false _ (Kd.C_below HR1.out D.out) hc1 HB.out).mono ?_); rintro e w'' ⟨rfl, hb⟩))
      go_ret2
      exact ⟨rfl, below_then D.out D.out.size hb⟩
    | true =>
      rw [if_pos rfl] at h
      obtain ⟨t, HC, h⟩ := Option.bind_eq_some_iff.mp h
      have HC := Aside0.mk HC
      obtain ⟨rfl, rfl⟩ := Prod.mk.inj (Option.some.inj h)
      go_enter Try.func21, Try.ntmps21
      go_wp2_with (first | (go_at_call 41; (with_reducible refine (impl_rowOK.calls A0 c0 l0 true _ HR0.out hc0 HA.out).mono ?_); rintro e w' ⟨rfl, hb⟩; have D := Aside0.mk hb; clear hb) | (go_at_call 41; (with_reducible refine (impl_rowOK.calls A1 c1 l1 true _ (Kd.C_below HR1.out D.out) hc1 HB.out).mono ?_); rintro e w'' ⟨rfl, hb⟩; have D2 := Aside0.mk (below_then D.out D.out.size hb); clear hb) | (go_at_call 42; (with_reducible refine (impl_CompareRows.cmp k A0 A1 c0 c1 l0 l1 t _ (Kd.C_below HR0.out D2.out) (Kd.C_below HR1.out D2.out) HC.out).mono ?_); rintro e w''' ⟨rfl, hb⟩))
      go_ret2
      exact ⟨rfl, below_then D2.out D2.out.size hb⟩

end Go.Proofs.Ytnljfjicopffbaa.XR
