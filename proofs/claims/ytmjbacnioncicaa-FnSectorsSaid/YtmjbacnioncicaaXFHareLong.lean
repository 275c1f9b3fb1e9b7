-- Written for this claim: a contract of one function, proved by hand; the places of its template filled by a program.
import Derived.Test.YtmjbacnioncicaaXF0
import Derived.Lib.SlBy
import Derived.Lib.Walk
import Derived.Shelf.Abstract
namespace Go.Proofs.Ytmjbacnioncicaa.XF
open Go Go.RowKit Go.Proofs.YtmjbacnioncicaaW.PrintWords Go.Proofs.YtmjbacnioncicaaW.PrintLast Go.Proofs.YtmjbacnioncicaaW.PrintMore
set_option linter.unusedVariables false
set_option linter.unusedSimpArgs false
open Go.Proofs.Ytmjbacnioncicaa.Xtra
def impl_areLong.f (l0 : List ByteArray) : Option Bool := some (l0.any fun s => decide (65536 < (s.size : Int)))
theorem impl_areLong.lit (s : ByteArray) (w : World) : Calls Try.prog 30 #[.string s] w fun e w' => e = .returned (.bool (decide (65536 < (s.size : Int)))) ∧ Drawn0 w w' := by
  go_enter Try.func30, Try.ntmps30
  go_wp2
  go_ret
  exact ⟨by simp, Drawn0.refl _⟩

set_option maxHeartbeats 2000000 in
/-- slices.IndexFunc at this element type, over a predicate that a function value gives. -/
theorem impl_areLong_idx (p : ByteArray → Bool) (g : Nat) (lb : Array Value) (A : Option Addr) (c : Nat) (l : List ByteArray) (w : World)
    (eg : ∀ args w, (callFunc g args).run Try.prog w = .ok (.enter g args) w)
    (hp : ∀ (W : World) (x : ByteArray), Drawn0 w W → Calls Try.prog g (#[.string x] ++ lb) W fun e W' => e = .returned (.bool (p x)) ∧ Drawn0 W W')
    (hr : Kd.C Kd.string w A l.length l) :
    Calls Try.prog 37 #[.slice A l.length c, .func (.func g) #[] lb] w fun e w' => e = .returned (.int .i64 (Lib.idxBy (fun _ y => p y) l ByteArray.empty)) ∧ Drawn0 w w' := by
  have hm : l.length ≤ 9223372036854775807 := hr.2.1
  by_cases hl : l = []
  · subst hl
    clear hp
    go_enter Try.func37, Try.ntmps37
    go_wp2
    go_loopg [5, 8] 0 (fun _ _ s8 wr => s8 = .int .i64 0 ∧ wr = w)
    case atStart => exact ⟨rfl, rfl⟩
    case round =>
      obtain ⟨rfl, rfl⟩ := hrel
      go_wp2
      go_ret
      exact ⟨rfl, Drawn0.refl _⟩
  · have hpos : 0 < l.length := List.length_pos_iff.mpr hl
    obtain ⟨ad, rfl, hx0⟩ := hr.2.2 hpos
    clear hx0 hl
    have HR := Aside0.mk hr
    clear hr
    have HP := Aside0.mk hp
    clear hp
    go_enter Try.func37, Try.ntmps37
    go_wp2
    go_loopg [5, 8] l.length (fun gg _ s8 wr => ∃ kk : Nat, kk ≤ l.length ∧ l.length - kk ≤ gg ∧ s8 = .int .i64 kk ∧ Aside0 (Drawn0 w wr) ∧ Aside0 (∀ j, j < kk → p (l.getD j ByteArray.empty) = false))
    case atStart => exact ⟨0, Nat.zero_le _, by omega, rfl, ⟨Drawn0.refl _⟩, ⟨fun j hj => absurd hj (Nat.not_lt_zero _)⟩⟩
    case round =>
      obtain ⟨kk, hkk, hg, rfl, D, B⟩ := hrel
      by_cases hlt : kk < l.length
      · have hltz : (kk : Int) < (l.length : Int) := by omega
        obtain ⟨ad2, e2, hx0⟩ := Kd.at_string (Kd.C_below HR.out D.out.below) (kk : Int) (by omega) hltz
        obtain rfl := Option.some.inj e2
        clear e2
        rw [Int.toNat_natCast] at hx0
        generalize hy : rdOf ByteArray.empty l (kk : Int) = y at hx0
        have Y : Aside0 (l.getD kk ByteArray.empty = y) := ⟨by rw [← hy]; simp [rdOf]⟩
        clear hy
        have hcall : ∀ W, Drawn0 w W → Calls Try.prog g (#[.string y] ++ lb) W fun e W' => e = .returned (.bool (p y)) ∧ Drawn0 W W' := fun W => HP.out W y
        have HC := Aside0.mk hcall
        clear hcall
        cases hq : p y with
        | true =>
          rw [hq] at HC
          have HQ := Aside0.mk hq
          clear hq
          go_wp2_with (go_at_fn g; refine (HC.out _ D.out).mono ?_; rintro e w' ⟨rfl, ⟨q, rfl⟩⟩)
          go_ret
          refine ⟨?_, D.out.step _⟩
          rw [idx_hit p l ByteArray.empty kk hlt (by rw [Y.out]; exact HQ.out) B.out]
          rfl
        | false =>
          rw [hq] at HC
          have HQ := Aside0.mk hq
          clear hq
          go_wp2_with (go_at_fn g; refine (HC.out _ D.out).mono ?_; rintro e w' ⟨rfl, ⟨q, rfl⟩⟩)
          go_roundg (l.length - (kk + 1))
          case measure => omega
          case rel =>
            refine ⟨kk + 1, by omega, by omega, by go_num, ⟨D.out.step _⟩, ⟨fun j hj => ?_⟩⟩
            by_cases e : j = kk
            · subst e
              rw [Y.out]
              exact HQ.out
            · exact B.out j (by omega)
      · have hltz : ¬ (kk : Int) < (l.length : Int) := by omega
        have hz : kk = l.length := by omega
        subst hz
        go_wp2
        go_ret
        refine ⟨?_, D.out⟩
        rw [idx_miss p l ByteArray.empty B.out]
        rfl

set_option maxHeartbeats 2000000 in
/-- slices.ContainsFunc at this element type. -/
theorem impl_areLong_has (p : ByteArray → Bool) (g : Nat) (lb : Array Value) (A : Option Addr) (c : Nat) (l : List ByteArray) (w : World)
    (eg : ∀ args w, (callFunc g args).run Try.prog w = .ok (.enter g args) w)
    (hp : ∀ (W : World) (x : ByteArray), Drawn0 w W → Calls Try.prog g (#[.string x] ++ lb) W fun e W' => e = .returned (.bool (p x)) ∧ Drawn0 W W')
    (hr : Kd.C Kd.string w A l.length l) :
    Calls Try.prog 29 #[.slice A l.length c, .func (.func g) #[] lb] w fun e w' => e = .returned (.bool (l.any p)) ∧ Drawn0 w w' := by
  rw [show l.any p = decide (0 ≤ Lib.idxBy (fun _ y => p y) l ByteArray.empty) from (Lib.idxBy_nonneg_iff (fun _ y => p y) l ByteArray.empty).symm]
  have HI : Calls Try.prog 37 #[.slice A l.length c, .func (.func g) #[] lb] w fun e w' => e = .returned (.int .i64 (Lib.idxBy (fun _ y => p y) l ByteArray.empty)) ∧ Drawn0 w w' := impl_areLong_idx p g lb A c l w eg hp hr
  clear hp hr
  generalize Lib.idxBy (fun _ y => p y) l ByteArray.empty = n at HI ⊢
  have HH := Aside0.mk HI
  clear HI
  go_enter Try.func29, Try.ntmps29
  go_wp2_with (go_at_call 37; refine (HH.out).mono ?_; rintro e w' ⟨rfl, ⟨q, rfl⟩⟩)
  go_ret
  exact ⟨rfl, ⟨⟨q, rfl⟩⟩⟩

set_option maxHeartbeats 2000000 in
theorem impl_areLong.calls (A0 : Option Addr) (c0 : Nat) (l0 : List ByteArray) (r : Bool) (w : World) (hr0 : Kd.C Kd.string w A0 l0.length l0) (hc0 : l0.length ≤ c0) (h : impl_areLong.f l0 = some r) :
    Calls Try.prog 15 #[.slice A0 l0.length c0] w fun e w' => e = .returned (.bool r) ∧ Drawn0 w w' := by
  obtain rfl := Option.some.inj h
  have H0 := impl_areLong_has (fun s => decide (65536 < (s.size : Int))) 30 #[] A0 c0 l0 w (enters_of Try.func30 (by kernel_rfl) rfl) (fun W x _ => impl_areLong.lit x W) hr0
  have HH := Aside0.mk H0
  clear H0 hr0 h
  generalize (l0.any fun s => decide (65536 < (s.size : Int))) = b at HH ⊢
  go_enter Try.func15, Try.ntmps15
  go_wp2_with (go_at_call 29; refine (HH.out).mono ?_; rintro e w' ⟨rfl, ⟨q, rfl⟩⟩)
  go_ret
  exact ⟨rfl, ⟨⟨q, rfl⟩⟩⟩

end Go.Proofs.Ytmjbacnioncicaa.XF
