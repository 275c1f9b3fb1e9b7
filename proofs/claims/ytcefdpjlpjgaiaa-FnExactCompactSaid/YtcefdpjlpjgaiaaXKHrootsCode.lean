-- Written for this claim: a contract of one function, proved by hand; the places of its template filled by a program.
import Derived.Test.YtcefdpjlpjgaiaaXK0
import Derived.Test.YtcefdpjlpjgaiaaXK4
import Derived.Test.YtcefdpjlpjgaiaaXK5
import Derived.Lib.SlBy
import Derived.Lib.Walk
import Derived.Shelf.Abstract
import Derived.Test.YtcefdpjlpjgaiaaWGuard
namespace Go.Proofs.Ytcefdpjlpjgaiaa.XK
open Go Go.RowKit Go.Proofs.YtcefdpjlpjgaiaaW.PrintWords Go.Proofs.YtcefdpjlpjgaiaaW.PrintLast Go.Proofs.YtcefdpjlpjgaiaaW.PrintMore
set_option linter.unusedVariables false
set_option linter.unusedSimpArgs false
open Go.Proofs.Ytcefdpjlpjgaiaa.Xtra
def impl_rootsCode.w (x lo hi : Int) : Bool := (impl_within.f x lo hi).getD false
theorem impl_rootsCode.w_some (x lo hi : Int) : impl_within.f x lo hi = some (impl_rootsCode.w x lo hi) := by
  unfold impl_rootsCode.w impl_within.f
  split <;> rfl
/-- What the closure tells of a root. -/
def impl_rootsCode.q (n : Nat) (x : Int) : Bool := !impl_rootsCode.w x (-1) (wrap64 ((n : Int) - 1))
def impl_rootsCode.f (k : Nat) (l0 : List S58) (l1 : List Int) : Option Int := if (4096 : Int) < (l1.length : Int) then some 2 else (impl_ForestOK.f k l0).bind fun t => if t = true then some (if l1.any (impl_rootsCode.q l0.length) then 4 else 0) else some 1
theorem impl_rootsCode.mono : ∀ l0 l1 k, LeO (impl_rootsCode.f k l0 l1) (impl_rootsCode.f (k + 1) l0 l1) := by
  intro l0 l1 k
  unfold impl_rootsCode.f
  exact LeO.ite (LeO.refl _) (LeO.bind (impl_ForestOK.mono _ _) (fun _ => LeO.refl _))
set_option maxHeartbeats 2000000 in
set_option maxRecDepth 100000 in
theorem impl_rootsCode.closure (g : Nat) (A0 : Option Addr) (c0 n : Nat) (x : Int) (W : World) (hb : W.heap[g]? = some (.cells #[.slice A0 n c0] 31 (0, 0))) :
    Calls Try.prog 36 #[.int .i64 x, .pointer (some ⟨g, 0, none⟩)] W fun e W' => e = .returned (.bool (impl_rootsCode.q n x)) ∧ Below W.heap.size W W' := by
  have hu := Try.underlying31
  have hz0 : W.cell? ⟨g, 0, none⟩ = some (.slice A0 n c0) := (blk_cell hb 0).trans rfl
  unfold impl_rootsCode.q
  have hh := impl_rootsCode.w_some x (-1) (wrap64 ((n : Int) - 1))
  generalize impl_rootsCode.w x (-1) (wrap64 ((n : Int) - 1)) = b at hh ⊢
  have HH := Aside0.mk hh
  clear hh hb
  cases b <;> (
    go_enter Try.func36, Try.ntmps36
    go_wp2_with (go_at_call 37; (with_reducible refine (impl_within.calls x (-1) (wrap64 ((n : Int) - 1)) _ _ HH.out).mono ?_); rintro e w' ⟨rfl, hb⟩; have D := Aside0.mk hb.below; clear hb)
    go_ret
    exact ⟨rfl, D.out⟩)

set_option maxHeartbeats 2000000 in
/-- slices.IndexFunc at this element type, over a predicate that a function value gives. -/
theorem impl_rootsCodeb_idx (p : Int → Bool) (g : Nat) (lb : Array Value) (A : Option Addr) (c : Nat) (l : List Int) (w : World)
    (eg : ∀ args w, (callFunc g args).run Try.prog w = .ok (.enter g args) w)
    (hp : ∀ (W : World) (x : Int), Below w.heap.size w W → Calls Try.prog g (#[.int .i64 x] ++ lb) W fun e W' => e = .returned (.bool (p x)) ∧ Below W.heap.size W W')
    (hr : Kd.C (Kd.int .i64) w A l.length l) :
    Calls Try.prog 51 #[.slice A l.length c, .func (.func g) #[] lb] w fun e w' => e = .returned (.int .i64 (Lib.idxBy (fun _ y => p y) l 0)) ∧ Below w.heap.size w w' := by
  have hm : l.length ≤ 9223372036854775807 := hr.2.1
  by_cases hl : l = []
  · subst hl
    clear hp
    go_enter Try.func51, Try.ntmps51
    go_wp2
    go_loopg [5, 8] 0 (fun _ _ s8 wr => s8 = .int .i64 0 ∧ wr = w)
    case atStart => exact ⟨rfl, rfl⟩
    case round =>
      obtain ⟨rfl, rfl⟩ := hrel
      go_wp2
      go_ret
      exact ⟨rfl, Below.refl _ _⟩
  · have hpos : 0 < l.length := List.length_pos_iff.mpr hl
    obtain ⟨ad, rfl, hx0⟩ := hr.2.2 hpos
    clear hx0 hl
    have HR := Aside0.mk hr
    clear hr
    have HP := Aside0.mk hp
    clear hp
    go_enter Try.func51, Try.ntmps51
    go_wp2
    go_loopg [5, 8] l.length (fun gg _ s8 wr => ∃ kk : Nat, kk ≤ l.length ∧ l.length - kk ≤ gg ∧ s8 = .int .i64 kk ∧ Aside0 (Below w.heap.size w wr) ∧ Aside0 (∀ j, j < kk → p (l.getD j 0) = false))
    case atStart => exact ⟨0, Nat.zero_le _, by omega, rfl, ⟨Below.refl _ _⟩, ⟨fun j hj => absurd hj (Nat.not_lt_zero _)⟩⟩
    case round =>
      obtain ⟨kk, hkk, hg, rfl, D, B⟩ := hrel
      by_cases hlt : kk < l.length
      · have hltz : (kk : Int) < (l.length : Int) := by omega
        obtain ⟨ad2, e2, hx0⟩ := Kd.at_int (Kd.C_below HR.out D.out) (kk : Int) (by omega) hltz
        obtain rfl := Option.some.inj e2
        clear e2
        rw [Int.toNat_natCast] at hx0
        generalize hy : rd l (kk : Int) = y at hx0
        have Y : Aside0 (l.getD kk 0 = y) := ⟨by rw [← hy]; simp [rd]⟩
        clear hy
        have hcall : ∀ W, Below w.heap.size w W → Calls Try.prog g (#[.int .i64 y] ++ lb) W fun e W' => e = .returned (.bool (p y)) ∧ Below W.heap.size W W' := fun W => HP.out W y
        have HC := Aside0.mk hcall
        clear hcall
        cases hq : p y with
        | true =>
          rw [hq] at HC
          have HQ := Aside0.mk hq
          clear hq
          go_wp2_with (go_at_fn g; refine (HC.out _ D.out).mono ?_; rintro e w' ⟨rfl, hb⟩)
          go_ret
          refine ⟨?_, below_then D.out D.out.size hb⟩
          rw [idx_hit p l 0 kk hlt (by rw [Y.out]; exact HQ.out) B.out]
          rfl
        | false =>
          rw [hq] at HC
          have HQ := Aside0.mk hq
          clear hq
          go_wp2_with (go_at_fn g; refine (HC.out _ D.out).mono ?_; rintro e w' ⟨rfl, hb⟩)
          go_roundg (l.length - (kk + 1))
          case measure => omega
          case rel =>
            refine ⟨kk + 1, by omega, by omega, by go_num, ⟨below_then D.out D.out.size hb⟩, ⟨fun j hj => ?_⟩⟩
            by_cases e : j = kk
            · subst e
              rw [Y.out]
              exact HQ.out
            · exact B.out j (by omega)
      · have hltz : ¬ (kk : Int) < (l.length : Int) := by omega
        have hz : kk = l.length := by omega
        subst hz
        go_wp2
        go_ret
        refine ⟨?_, D.out⟩
        rw [idx_miss p l 0 B.out]
        rfl

set_option maxHeartbeats 2000000 in
/-- slices.ContainsFunc at this element type. -/
theorem impl_rootsCodeb_has (p : Int → Bool) (g : Nat) (lb : Array Value) (A : Option Addr) (c : Nat) (l : List Int) (w : World)
    (eg : ∀ args w, (callFunc g args).run Try.prog w = .ok (.enter g args) w)
    (hp : ∀ (W : World) (x : Int), Below w.heap.size w W → Calls Try.prog g (#[.int .i64 x] ++ lb) W fun e W' => e = .returned (.bool (p x)) ∧ Below W.heap.size W W')
    (hr : Kd.C (Kd.int .i64) w A l.length l) :
    Calls Try.prog 35 #[.slice A l.length c, .func (.func g) #[] lb] w fun e w' => e = .returned (.bool (l.any p)) ∧ Below w.heap.size w w' := by
  rw [show l.any p = decide (0 ≤ Lib.idxBy (fun _ y => p y) l 0) from (Lib.idxBy_nonneg_iff (fun _ y => p y) l 0).symm]
  have HI : Calls Try.prog 51 #[.slice A l.length c, .func (.func g) #[] lb] w fun e w' => e = .returned (.int .i64 (Lib.idxBy (fun _ y => p y) l 0)) ∧ Below w.heap.size w w' := impl_rootsCodeb_idx p g lb A c l w eg hp hr
  clear hp hr
  generalize Lib.idxBy (fun _ y => p y) l 0 = n at HI ⊢
  have HH := Aside0.mk HI
  clear HI
  go_enter Try.func35, Try.ntmps35
  go_wp2_with (go_at_call 51; refine (HH.out).mono ?_; rintro e w' ⟨rfl, hb⟩)
  go_ret
  exact ⟨rfl, hb⟩

set_option maxHeartbeats 4000000 in
set_option maxRecDepth 100000 in
theorem impl_rootsCode.calls (k : Nat) (A0_0 : Option Addr) (c0_0 : Nat) (l0_0 : List S58) (A1 : Option Addr) (c1 : Nat) (l1 : List Int) (r : Int) (w : World) (hr0_0 : Kd.C k58 w A0_0 l0_0.length l0_0) (hc0_0 : l0_0.length ≤ c0_0) (hr1 : Kd.C (Kd.int .i64) w A1 l1.length l1) (hc1 : l1.length ≤ c1) (h : impl_rootsCode.f k l0_0 l1 = some r) :
    Calls Try.prog 22 #[.agg #[.slice A0_0 l0_0.length c0_0], .slice A1 l1.length c1] w fun e w' => e = .returned (.int .i64 r) ∧ Below w.heap.size w w' := by
  have hu := Try.underlying31
  have HR0 := Aside0.mk hr0_0
  have HR1 := Aside0.mk hr1
  have HC0 := Aside0.mk hc0_0
  clear hr0_0 hr1 hc0_0 hc1
  have B0 := Aside0.mk (below_alloc (Below.refl w.heap.size w) (.cells #[.slice A0_0 l0_0.length c0_0] 31 (0, 0)))
  have BK0 := Aside0.mk (blk_new w (.cells #[.slice A0_0 l0_0.length c0_0] 31 (0, 0)))
  unfold impl_rootsCode.f at h
  by_cases p1 : (4096 : Int) < (l1.length : Int)
  · rw [if_pos p1] at h
    obtain rfl := Option.some.inj h
    have p1b : decide ((4096 : Int) < (l1.length : Int)) = true := decide_eq_true p1
    clear h p1
    go_enter Try.func22, Try.ntmps22
    go_wp2
    go_ret
    exact ⟨rfl, B0.out⟩
  rw [if_neg p1] at h
  have p1b : decide ((4096 : Int) < (l1.length : Int)) = false := decide_eq_false p1
  clear p1
  obtain ⟨t, ht, h⟩ := Option.bind_eq_some_iff.mp h
  have HT := Aside0.mk ht
  clear ht
  have hb : ∀ W g, W.heap[g]? = some (.cells #[.slice A0_0 l0_0.length c0_0] 31 (0, 0)) → Kd.C (Kd.int .i64) W A1 l1.length l1 → Calls Try.prog 35 #[.slice A1 l1.length c1, .func (.func 36) #[] #[.pointer (some ⟨g, 0, none⟩)]] W fun e w' => e = .returned (.bool (l1.any (impl_rootsCode.q l0_0.length))) ∧ Below W.heap.size W w' := fun W g hg hC1 =>
    impl_rootsCodeb_has (impl_rootsCode.q l0_0.length) 36 #[.pointer (some ⟨g, 0, none⟩)] A1 c1 l1 W (enters_of Try.func36 (by kernel_rfl) rfl) (fun W' x hW => by simpa using impl_rootsCode.closure g A0_0 c0_0 l0_0.length x W' (blk_below hg hW)) hC1
  generalize l1.any (impl_rootsCode.q l0_0.length) = b at hb h
  have HQ := Aside0.mk hb
  clear hb
  have H := Aside0.mk h
  clear h
  cases t <;> cases b <;> (
    obtain rfl := Option.some.inj H.out
    clear H
    go_enter Try.func22, Try.ntmps22
    go_wp2_with (first
      | (go_at_call 34; (with_reducible refine (impl_ForestOK.calls k A0_0 c0_0 l0_0 _ _ (Kd.C_below HR0.out B0.out) HC0.out HT.out).mono ?_); rintro e w' ⟨rfl, hd⟩; have D := Aside0.mk (below_then B0.out B0.out.size hd); have BK := Aside0.mk (blk_below BK0.out hd); clear hd)
      | (go_at_call 35; (with_reducible refine (HQ.out _ _ BK.out (Kd.C_below HR1.out D.out)).mono ?_); rintro e w2 ⟨rfl, hd⟩; have D2 := Aside0.mk (below_then D.out D.out.size hd); clear hd))
    go_ret
    first
      | exact ⟨rfl, D2.out⟩
      | exact ⟨by simp, D2.out⟩
      | exact ⟨rfl, D.out⟩)

end Go.Proofs.Ytcefdpjlpjgaiaa.XK
