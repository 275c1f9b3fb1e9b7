-- Written for this claim: a contract of one function, proved by hand; the places of its template filled by a program.
import Derived.Test.YtnhfhafbdbmkpaaDoorXX0
import Derived.Test.YtnhfhafbdbmkpaaDoorXX4
import Derived.Lib.SlBy
import Derived.Lib.Walk
import Derived.Shelf.Abstract
namespace Go.Proofs.YtnhfhafbdbmkpaaDoor.XX
open Go Go.RowKit Go.Proofs.YtnhfhafbdbmkpaaDoorW.PrintWords Go.Proofs.YtnhfhafbdbmkpaaDoorW.PrintLast Go.Proofs.YtnhfhafbdbmkpaaDoorW.PrintMore
set_option linter.unusedVariables false
set_option linter.unusedSimpArgs false
open Go.Proofs.YtnhfhafbdbmkpaaDoor.Xtra
theorem impl_rowOK.tot (x y : Int) (z : ByteArray) : ∃ b, impl_rowOK_1.f x y z = some b := by
  unfold impl_rowOK_1.f impl_ValueOK.f impl_hasText.f impl_within.f
  repeat' (first | exact ⟨_, rfl⟩ | (simp only [Option.bind_some]; exact ⟨_, rfl⟩) | split)
  all_goals (simp only [Option.bind_some]; repeat' (first | exact ⟨_, rfl⟩ | split))
/-- What the closure tells of a value. -/
def impl_rowOK.p (x : S39) : Bool := (impl_rowOK_1.f x.f0 x.f1 x.f2).getD false
theorem impl_rowOK.p_some (x : S39) : impl_rowOK_1.f x.f0 x.f1 x.f2 = some (impl_rowOK.p x) := by
  obtain ⟨b, h⟩ := impl_rowOK.tot x.f0 x.f1 x.f2
  unfold impl_rowOK.p
  rw [h]
  rfl
/-- A row: at most 8 values, none of which the closure tells true. -/
def impl_rowOK.f (l0 : List S39) : Option Bool := some (if (l0.length : Int) ≤ 8 then !l0.any impl_rowOK.p else false)

set_option maxHeartbeats 2000000 in
/-- slices.IndexFunc at this element type, over a predicate that a function value gives. -/
theorem impl_rowOK_idx (p : S39 → Bool) (g : Nat) (lb : Array Value) (A : Option Addr) (c : Nat) (l : List S39) (w : World)
    (eg : ∀ args w, (callFunc g args).run Tryd.prog w = .ok (.enter g args) w)
    (hp : ∀ (W : World) (x : S39), Below w.heap.size w W → Calls Tryd.prog g (#[.agg #[.int .i64 x.f0, .int .i64 x.f1, .string x.f2]] ++ lb) W fun e W' => e = .returned (.bool (p x)) ∧ Below W.heap.size W W')
    (hr : Kd.C k39 w A l.length l) :
    Calls Tryd.prog 70 #[.slice A l.length c, .func (.func g) #[] lb] w fun e w' => e = .returned (.int .i64 (Lib.idxBy (fun _ y => p y) l z39)) ∧ Below w.heap.size w w' := by
  have hm : l.length ≤ 9223372036854775807 := hr.2.1
  by_cases hl : l = []
  · subst hl
    clear hp
    go_enter Tryd.func70, Tryd.ntmps70
    go_wp2
    go_loopg [5, 8] 0 (fun _ _ s8 wr => s8 = .int .i64 0 ∧ wr = w)
    case atStart => exact ⟨rfl, rfl⟩
    case round =>
      obtain ⟨rfl, rfl⟩ := hrel
      go_wp2
      go_ret
      exact ⟨rfl, Below.refl _ _⟩
  · have hpos : 0 < l.length := List.length_pos_iff.mpr hl
    obtain ⟨ad, rfl, hx0⟩ := hr.2.2 hpos
    clear hx0 hl
    have HR := Aside0.mk hr
    clear hr
    have HP := Aside0.mk hp
    clear hp
    go_enter Tryd.func70, Tryd.ntmps70
    go_wp2
    go_loopg [5, 8] l.length (fun gg _ s8 wr => ∃ kk : Nat, kk ≤ l.length ∧ l.length - kk ≤ gg ∧ s8 = .int .i64 kk ∧ Aside0 (Below w.heap.size w wr) ∧ Aside0 (∀ j, j < kk → p (l.getD j z39) = false))
    case atStart => exact ⟨0, Nat.zero_le _, by omega, rfl, ⟨Below.refl _ _⟩, ⟨fun j hj => absurd hj (Nat.not_lt_zero _)⟩⟩
    case round =>
      obtain ⟨kk, hkk, hg, rfl, D, B⟩ := hrel
      by_cases hlt : kk < l.length
      · have hltz : (kk : Int) < (l.length : Int) := by omega
        obtain ⟨ad2, e2, hx0, hx1, hx2⟩ := at_T39 (Kd.C_below HR.out D.out) (kk : Int) (by omega) hltz
        obtain rfl := Option.some.inj e2
        clear e2
        rw [Int.toNat_natCast] at hx0 hx1 hx2
        generalize hy : rd_T39 l (kk : Int) = y at hx0 hx1 hx2
        have Y : Aside0 (l.getD kk z39 = y) := ⟨by rw [← hy]; simp [rd_T39]⟩
        clear hy
        have hcall : ∀ W, Below w.heap.size w W → Calls Tryd.prog g (#[.agg #[.int .i64 y.f0, .int .i64 y.f1, .string y.f2]] ++ lb) W fun e W' => e = .returned (.bool (p y)) ∧ Below W.heap.size W W' := fun W => HP.out W y
        have HC := Aside0.mk hcall
        clear hcall
        cases hq : p y with
        | true =>
          rw [hq] at HC
          have HQ := Aside0.mk hq
          clear hq
          go_wp2_with (go_at_fn g; refine (HC.out _ D.out).mono ?_; rintro e w' ⟨rfl, hb⟩)
          go_ret
          refine ⟨?_, below_then D.out D.out.size hb⟩
          rw [idx_hit p l z39 kk hlt (by rw [Y.out]; exact HQ.out) B.out]
          rfl
        | false =>
          rw [hq] at HC
          have HQ := Aside0.mk hq
          clear hq
          go_wp2_with (go_at_fn g; refine (HC.out _ D.out).mono ?_; rintro e w' ⟨rfl, hb⟩)
          go_roundg (l.length - (kk + 1))
          case measure => omega
          case rel =>
            refine ⟨kk + 1, by omega, by omega, by go_num, ⟨below_then D.out D.out.size hb⟩, ⟨fun j hj => ?_⟩⟩
            by_cases e : j = kk
            · subst e
              rw [Y.out]
              exact HQ.out
            · exact B.out j (by omega)
      · have hltz : ¬ (kk : Int) < (l.length : Int) := by omega
        have hz : kk = l.length := by omega
        subst hz
        go_wp2
        go_ret
        refine ⟨?_, D.out⟩
        rw [idx_miss p l z39 B.out]
        rfl

set_option maxHeartbeats 2000000 in
/-- slices.ContainsFunc at this element type. -/
theorem impl_rowOK_has (p : S39 → Bool) (g : Nat) (lb : Array Value) (A : Option Addr) (c : Nat) (l : List S39) (w : World)
    (eg : ∀ args w, (callFunc g args).run Tryd.prog w = .ok (.enter g args) w)
    (hp : ∀ (W : World) (x : S39), Below w.heap.size w W → Calls Tryd.prog g (#[.agg #[.int .i64 x.f0, .int .i64 x.f1, .string x.f2]] ++ lb) W fun e W' => e = .returned (.bool (p x)) ∧ Below W.heap.size W W')
    (hr : Kd.C k39 w A l.length l) :
    Calls Tryd.prog 48 #[.slice A l.length c, .func (.func g) #[] lb] w fun e w' => e = .returned (.bool (l.any p)) ∧ Below w.heap.size w w' := by
  rw [show l.any p = decide (0 ≤ Lib.idxBy (fun _ y => p y) l z39) from (Lib.idxBy_nonneg_iff (fun _ y => p y) l z39).symm]
  have HI : Calls Tryd.prog 70 #[.slice A l.length c, .func (.func g) #[] lb] w fun e w' => e = .returned (.int .i64 (Lib.idxBy (fun _ y => p y) l z39)) ∧ Below w.heap.size w w' := impl_rowOK_idx p g lb A c l w eg hp hr
  clear hp hr
  generalize Lib.idxBy (fun _ y => p y) l z39 = n at HI ⊢
  have HH := Aside0.mk HI
  clear HI
  go_enter Tryd.func48, Tryd.ntmps48
  go_wp2_with (go_at_call 70; refine (HH.out).mono ?_; rintro e w' ⟨rfl, hb⟩)
  go_ret
  exact ⟨rfl, hb⟩

set_option maxHeartbeats 2000000 in
theorem impl_rowOK.calls (A0 : Option Addr) (c0 : Nat) (l0 : List S39) (r : Bool) (w : World) (hr0 : Kd.C k39 w A0 l0.length l0) (hc0 : l0.length ≤ c0) (h : impl_rowOK.f l0 = some r) :
    Calls Tryd.prog 33 #[.slice A0 l0.length c0] w fun e w' => e = .returned (.bool r) ∧ Below w.heap.size w w' := by
  obtain rfl := Option.some.inj h
  have H0 := impl_rowOK_has impl_rowOK.p 49 #[] A0 c0 l0 w (enters_of Tryd.func49 (by kernel_rfl) rfl) (fun W x _ => impl_rowOK_1.calls x.f0 x.f1 x.f2 _ W (impl_rowOK.p_some x)) hr0
  have HH := Aside0.mk H0
  clear H0 hr0 h
  generalize (l0.any impl_rowOK.p) = b at HH ⊢
  by_cases hl : (l0.length : Int) ≤ 8
  · rw [if_pos hl]
    have hl1 : decide ((l0.length : Int) ≤ 8) = true := decide_eq_true hl
    go_enter Tryd.func33, Tryd.ntmps33
    go_wp2_with (go_at_call 48; refine (HH.out).mono ?_; rintro e w' ⟨rfl, hb⟩)
    go_ret
    exact ⟨rfl, hb⟩
  · rw [if_neg hl]
    have hl1 : decide ((l0.length : Int) ≤ 8) = false := decide_eq_false hl
    go_enter Tryd.func33, Tryd.ntmps33
    go_wp2
    go_ret
    exact ⟨rfl, Below.refl _ _⟩

end Go.Proofs.YtnhfhafbdbmkpaaDoor.XX
