/- The library's ContainsFunc and IndexFunc over numbers and over pages that are held, for any test that reads; walks by hand. -/
import Derived.Test.YtcnkacbgcmnokaaXR0
import Derived.Lib.SlBy
import Derived.Lib.Walk
import Derived.Shelf.Abstract
namespace Go.Proofs.Ytcnkacbgcmnokaa.XR
open Go Go.RowKit Go.Proofs.YtcnkacbgcmnokaaW.PrintWords Go.Proofs.YtcnkacbgcmnokaaW.PrintLast Go.Proofs.YtcnkacbgcmnokaaW.PrintMore
set_option linter.unusedVariables false
set_option linter.unusedSimpArgs false
open Go.Proofs.Ytcnkacbgcmnokaa.Xtra
set_option maxHeartbeats 2000000 in
/-- slices.IndexFunc at this element type, over a predicate that a function value gives. -/
theorem impl_SpaceOKa_idx (p : Int → Bool) (g : Nat) (lb : Array Value) (A : Option Addr) (c : Nat) (l : List Int) (w : World)
    (eg : ∀ args w, (callFunc g args).run Try.prog w = .ok (.enter g args) w)
    (hp : ∀ (W : World) (x : Int), Below w.heap.size w W → Calls Try.prog g (#[.int .i64 x] ++ lb) W fun e W' => e = .returned (.bool (p x)) ∧ Below W.heap.size W W')
    (hr : Kd.C (Kd.int .i64) w A l.length l) :
    Calls Try.prog 66 #[.slice A l.length c, .func (.func g) #[] lb] w fun e w' => e = .returned (.int .i64 (Lib.idxBy (fun _ y => p y) l 0)) ∧ Below w.heap.size w w' := by
  have hm : l.length ≤ 9223372036854775807 := hr.2.1
  by_cases hl : l = []
  · subst hl
    clear hp
    go_enter Try.func66, Try.ntmps66
    go_wp2
    go_loopg [5, 8] 0 (fun _ _ s8 wr => s8 = .int .i64 0 ∧ wr = w)
    case atStart => exact ⟨rfl, rfl⟩
    case round =>
      obtain ⟨rfl, rfl⟩ := hrel
      go_wp2
      go_ret
      exact ⟨rfl, Below.refl _ _⟩
  · have hpos : 0 < l.length := List.length_pos_iff.mpr hl
    obtain ⟨ad, rfl, hx0⟩ := hr.2.2 hpos
    clear hx0 hl
    have HR := Aside0.mk hr
    clear hr
    have HP := Aside0.mk hp
    clear hp
    go_enter Try.func66, Try.ntmps66
    go_wp2
    go_loopg [5, 8] l.length (fun gg _ s8 wr => ∃ kk : Nat, kk ≤ l.length ∧ l.length - kk ≤ gg ∧ s8 = .int .i64 kk ∧ Aside0 (Below w.heap.size w wr) ∧ Aside0 (∀ j, j < kk → p (l.getD j 0) = false))
    case atStart => exact ⟨0, Nat.zero_le _, by omega, rfl, ⟨Below.refl _ _⟩, ⟨fun j hj => absurd hj (Nat.not_lt_zero _)⟩⟩
    case round =>
      obtain ⟨kk, hkk, hg, rfl, D, B⟩ := hrel
      by_cases hlt : kk < l.length
      · have hltz : (kk : Int) < (l.length : Int) := by omega
        obtain ⟨ad2, e2, hx0⟩ := Kd.at_int (Kd.C_below HR.out D.out) (kk : Int) (by omega) hltz
        obtain rfl := Option.some.inj e2
        clear e2
        rw [Int.toNat_natCast] at hx0
        generalize hy : rd l (kk : Int) = y at hx0
        have Y : Aside0 (l.getD kk 0 = y) := ⟨by rw [← hy]; simp [rd]⟩
        clear hy
        have hcall : ∀ W, Below w.heap.size w W → Calls Try.prog g (#[.int .i64 y] ++ lb) W fun e W' => e = .returned (.bool (p y)) ∧ Below W.heap.size W W' := fun W => HP.out W y
        have HC := Aside0.mk hcall
        clear hcall
        cases hq : p y with
        | true =>
          rw [hq] at HC
          have HQ := Aside0.mk hq
          clear hq
          go_wp2_with (go_at_fn g; refine (HC.out _ D.out).mono ?_; rintro e w' ⟨rfl, hb⟩)
          go_ret
          refine ⟨?_, below_then D.out D.out.size hb⟩
          rw [idx_hit p l 0 kk hlt (by rw [Y.out]; exact HQ.out) B.out]
          rfl
        | false =>
          rw [hq] at HC
          have HQ := Aside0.mk hq
          clear hq
          go_wp2_with (go_at_fn g; refine (HC.out _ D.out).mono ?_; rintro e w' ⟨rfl, hb⟩)
          go_roundg (l.length - (kk + 1))
          case measure => omega
          case rel =>
            refine ⟨kk + 1, by omega, by omega, by go_num, ⟨below_then D.out D.out.size hb⟩, ⟨fun j hj => ?_⟩⟩
            by_cases e : j = kk
            · subst e
              rw [Y.out]
              exact HQ.out
            · exact B.out j (by omega)
      · have hltz : ¬ (kk : Int) < (l.length : Int) := by omega
        have hz : kk = l.length := by omega
        subst hz
        go_wp2
        go_ret
        refine ⟨?_, D.out⟩
        rw [idx_miss p l 0 B.out]
        rfl

set_option maxHeartbeats 2000000 in
/-- slices.ContainsFunc at this element type. -/
theorem impl_SpaceOKa_has (p : Int → Bool) (g : Nat) (lb : Array Value) (A : Option Addr) (c : Nat) (l : List Int) (w : World)
    (eg : ∀ args w, (callFunc g args).run Try.prog w = .ok (.enter g args) w)
    (hp : ∀ (W : World) (x : Int), Below w.heap.size w W → Calls Try.prog g (#[.int .i64 x] ++ lb) W fun e W' => e = .returned (.bool (p x)) ∧ Below W.heap.size W W')
    (hr : Kd.C (Kd.int .i64) w A l.length l) :
    Calls Try.prog 51 #[.slice A l.length c, .func (.func g) #[] lb] w fun e w' => e = .returned (.bool (l.any p)) ∧ Below w.heap.size w w' := by
  rw [show l.any p = decide (0 ≤ Lib.idxBy (fun _ y => p y) l 0) from (Lib.idxBy_nonneg_iff (fun _ y => p y) l 0).symm]
  have HI : Calls Try.prog 66 #[.slice A l.length c, .func (.func g) #[] lb] w fun e w' => e = .returned (.int .i64 (Lib.idxBy (fun _ y => p y) l 0)) ∧ Below w.heap.size w w' := impl_SpaceOKa_idx p g lb A c l w eg hp hr
  clear hp hr
  generalize Lib.idxBy (fun _ y => p y) l 0 = n at HI ⊢
  have HH := Aside0.mk HI
  clear HI
  go_enter Try.func51, Try.ntmps51
  go_wp2_with (go_at_call 66; refine (HH.out).mono ?_; rintro e w' ⟨rfl, hb⟩)
  go_ret
  exact ⟨rfl, hb⟩


set_option maxHeartbeats 2000000 in
/-- slices.IndexFunc at this element type, over a predicate that a function value gives. -/
theorem impl_SpaceOKb_idx (p : S74 → Bool) (g : Nat) (lb : Array Value) (A : Option Addr) (c : Nat) (l : List S74) (w : World)
    (eg : ∀ args w, (callFunc g args).run Try.prog w = .ok (.enter g args) w)
    (hp : ∀ (W : World) (x : S74), Below w.heap.size w W → Calls Try.prog g (#[.agg #[.int .i64 x.f0, .int .i64 x.f1]] ++ lb) W fun e W' => e = .returned (.bool (p x)) ∧ Below W.heap.size W W')
    (hr : Kd.C k74 w A l.length l) :
    Calls Try.prog 68 #[.slice A l.length c, .func (.func g) #[] lb] w fun e w' => e = .returned (.int .i64 (Lib.idxBy (fun _ y => p y) l z74)) ∧ Below w.heap.size w w' := by
  have hm : l.length ≤ 9223372036854775807 := hr.2.1
  by_cases hl : l = []
  · subst hl
    clear hp
    go_enter Try.func68, Try.ntmps68
    go_wp2
    go_loopg [5, 8] 0 (fun _ _ s8 wr => s8 = .int .i64 0 ∧ wr = w)
    case atStart => exact ⟨rfl, rfl⟩
    case round =>
      obtain ⟨rfl, rfl⟩ := hrel
      go_wp2
      go_ret
      exact ⟨rfl, Below.refl _ _⟩
  · have hpos : 0 < l.length := List.length_pos_iff.mpr hl
    obtain ⟨ad, rfl, hx0⟩ := hr.2.2 hpos
    clear hx0 hl
    have HR := Aside0.mk hr
    clear hr
    have HP := Aside0.mk hp
    clear hp
    go_enter Try.func68, Try.ntmps68
    go_wp2
    go_loopg [5, 8] l.length (fun gg _ s8 wr => ∃ kk : Nat, kk ≤ l.length ∧ l.length - kk ≤ gg ∧ s8 = .int .i64 kk ∧ Aside0 (Below w.heap.size w wr) ∧ Aside0 (∀ j, j < kk → p (l.getD j z74) = false))
    case atStart => exact ⟨0, Nat.zero_le _, by omega, rfl, ⟨Below.refl _ _⟩, ⟨fun j hj => absurd hj (Nat.not_lt_zero _)⟩⟩
    case round =>
      obtain ⟨kk, hkk, hg, rfl, D, B⟩ := hrel
      by_cases hlt : kk < l.length
      · have hltz : (kk : Int) < (l.length : Int) := by omega
        obtain ⟨ad2, e2, hx0, hx1⟩ := at_T74 (Kd.C_below HR.out D.out) (kk : Int) (by omega) hltz
        obtain rfl := Option.some.inj e2
        clear e2
        rw [Int.toNat_natCast] at hx0 hx1
        generalize hy : rd_T74 l (kk : Int) = y at hx0 hx1
        have Y : Aside0 (l.getD kk z74 = y) := ⟨by rw [← hy]; simp [rd_T74]⟩
        clear hy
        have hcall : ∀ W, Below w.heap.size w W → Calls Try.prog g (#[.agg #[.int .i64 y.f0, .int .i64 y.f1]] ++ lb) W fun e W' => e = .returned (.bool (p y)) ∧ Below W.heap.size W W' := fun W => HP.out W y
        have HC := Aside0.mk hcall
        clear hcall
        cases hq : p y with
        | true =>
          rw [hq] at HC
          have HQ := Aside0.mk hq
          clear hq
          go_wp2_with (go_at_fn g; refine (HC.out _ D.out).mono ?_; rintro e w' ⟨rfl, hb⟩)
          go_ret
          refine ⟨?_, below_then D.out D.out.size hb⟩
          rw [idx_hit p l z74 kk hlt (by rw [Y.out]; exact HQ.out) B.out]
          rfl
        | false =>
          rw [hq] at HC
          have HQ := Aside0.mk hq
          clear hq
          go_wp2_with (go_at_fn g; refine (HC.out _ D.out).mono ?_; rintro e w' ⟨rfl, hb⟩)
          go_roundg (l.length - (kk + 1))
          case measure => omega
          case rel =>
            refine ⟨kk + 1, by omega, by omega, by go_num, ⟨below_then D.out D.out.size hb⟩, ⟨fun j hj => ?_⟩⟩
            by_cases e : j = kk
            · subst e
              rw [Y.out]
              exact HQ.out
            · exact B.out j (by omega)
      · have hltz : ¬ (kk : Int) < (l.length : Int) := by omega
        have hz : kk = l.length := by omega
        subst hz
        go_wp2
        go_ret
        refine ⟨?_, D.out⟩
        rw [idx_miss p l z74 B.out]
        rfl

set_option maxHeartbeats 2000000 in
/-- slices.ContainsFunc at this element type. -/
theorem impl_SpaceOKb_has (p : S74 → Bool) (g : Nat) (lb : Array Value) (A : Option Addr) (c : Nat) (l : List S74) (w : World)
    (eg : ∀ args w, (callFunc g args).run Try.prog w = .ok (.enter g args) w)
    (hp : ∀ (W : World) (x : S74), Below w.heap.size w W → Calls Try.prog g (#[.agg #[.int .i64 x.f0, .int .i64 x.f1]] ++ lb) W fun e W' => e = .returned (.bool (p x)) ∧ Below W.heap.size W W')
    (hr : Kd.C k74 w A l.length l) :
    Calls Try.prog 54 #[.slice A l.length c, .func (.func g) #[] lb] w fun e w' => e = .returned (.bool (l.any p)) ∧ Below w.heap.size w w' := by
  rw [show l.any p = decide (0 ≤ Lib.idxBy (fun _ y => p y) l z74) from (Lib.idxBy_nonneg_iff (fun _ y => p y) l z74).symm]
  have HI : Calls Try.prog 68 #[.slice A l.length c, .func (.func g) #[] lb] w fun e w' => e = .returned (.int .i64 (Lib.idxBy (fun _ y => p y) l z74)) ∧ Below w.heap.size w w' := impl_SpaceOKb_idx p g lb A c l w eg hp hr
  clear hp hr
  generalize Lib.idxBy (fun _ y => p y) l z74 = n at HI ⊢
  have HH := Aside0.mk HI
  clear HI
  go_enter Try.func54, Try.ntmps54
  go_wp2_with (go_at_call 68; refine (HH.out).mono ?_; rintro e w' ⟨rfl, hb⟩)
  go_ret
  exact ⟨rfl, hb⟩

end Go.Proofs.Ytcnkacbgcmnokaa.XR
