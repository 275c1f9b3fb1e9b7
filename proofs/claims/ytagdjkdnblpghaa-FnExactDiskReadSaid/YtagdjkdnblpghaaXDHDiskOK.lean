-- Written for this claim: a contract of one function, proved by hand; the places of its template filled by a program.
import Derived.Test.YtagdjkdnblpghaaXD0
import Derived.Test.YtagdjkdnblpghaaXD2
import Derived.Lib.SlBy
import Derived.Lib.Walk
import Derived.Shelf.Abstract
namespace Go.Proofs.Ytagdjkdnblpghaa.XD
open Go Go.RowKit Go.Proofs.YtagdjkdnblpghaaW.PrintWords Go.Proofs.YtagdjkdnblpghaaW.PrintLast Go.Proofs.YtagdjkdnblpghaaW.PrintMore
set_option linter.unusedVariables false
set_option linter.unusedSimpArgs false
open Go.Proofs.Ytagdjkdnblpghaa.Xtra
/-- What the first closure tells of a text, and the second of a write. -/
def impl_DiskOK.p (s : ByteArray) : Bool := (impl_DiskOK_1.f s).getD false
theorem impl_DiskOK.p_some (s : ByteArray) : impl_DiskOK_1.f s = some (impl_DiskOK.p s) := rfl
def impl_DiskOK.w (x lo hi : Int) : Bool := (impl_within.f x lo hi).getD false
theorem impl_DiskOK.w_some (x lo hi : Int) : impl_within.f x lo hi = some (impl_DiskOK.w x lo hi) := by
  unfold impl_DiskOK.w impl_within.f
  split <;> rfl
def impl_DiskOK.h (l0 : List ByteArray) (l1 : List S92) (x : Int) : Bool := (impl_Disk_hasSector.f l0 l1 x).getD false
theorem impl_DiskOK.h_some (l0 : List ByteArray) (l1 : List S92) (x : Int) : impl_Disk_hasSector.f l0 l1 x = some (impl_DiskOK.h l0 l1 x) := by
  unfold impl_DiskOK.h impl_Disk_hasSector.f
  rw [impl_DiskOK.w_some]
  rfl
def impl_DiskOK.q (l0 : List ByteArray) (l1 : List S92) (x : S92) : Bool := !impl_DiskOK.h l0 l1 x.f0 || (x.f1.size : Int) != 32
def impl_DiskOK.f (l0 : List ByteArray) (l1 : List S92) : Option Bool := some (impl_DiskOK.w (l0.length : Int) 1 256 && !l0.any impl_DiskOK.p && decide ((l1.length : Int) ≤ 4096) && !l1.any (impl_DiskOK.q l0 l1))
set_option maxHeartbeats 2000000 in
set_option maxRecDepth 100000 in
theorem impl_DiskOK.second (g : Nat) (A0 A1 : Option Addr) (c0 c1 : Nat) (l0 : List ByteArray) (l1 : List S92) (x : S92) (W : World) (hb : W.heap[g]? = some (.cells #[.slice A0 l0.length c0, .slice A1 l1.length c1] 39 (0, 0)))
    (hr0 : Kd.C Kd.string W A0 l0.length l0) (hc0 : l0.length ≤ c0) (hr1 : Kd.C k92 W A1 l1.length l1) (hc1 : l1.length ≤ c1) :
    Calls Try.prog 68 #[.agg #[.int .i64 x.f0, .string x.f1], .pointer (some ⟨g, 0, none⟩)] W fun e W' => e = .returned (.bool (impl_DiskOK.q l0 l1 x)) ∧ Below W.heap.size W W' := by
  have hu := Try.underlying92
  have hud := Try.underlying39
  have BK := Aside0.mk hb
  have HR0 := Aside0.mk hr0
  have HR1 := Aside0.mk hr1
  have hz0 := fun o => (pw_cell_below (below_alloc (Below.refl W.heap.size W) o) ((blk_cell hb 0).trans rfl))
  have hz1 := fun o => (pw_cell_below (below_alloc (Below.refl W.heap.size W) o) ((blk_cell hb 1).trans rfl))
  clear hb hr0 hr1
  unfold impl_DiskOK.q
  have hh := impl_DiskOK.h_some l0 l1 x.f0
  generalize impl_DiskOK.h l0 l1 x.f0 = b at hh ⊢
  have HH := Aside0.mk hh
  clear hh
  cases b with
  | false =>
    go_enter Try.func68, Try.ntmps68
    go_wp2_with (go_at_call 69; (with_reducible refine (impl_Disk_hasSector.calls A0 c0 l0 A1 c1 l1 x.f0 false _ ?r0 hc0 ?r1 hc1 HH.out).mono ?_); (case r0 => exact Kd.C_below HR0.out (below_alloc (Below.refl _ _) _)); (case r1 => exact Kd.C_below HR1.out (below_alloc (Below.refl _ _) _)); rintro e w' ⟨rfl, hb⟩; have D := Aside0.mk (below_then (below_alloc (Below.refl W.heap.size W) _) (below_alloc (Below.refl W.heap.size W) _).size hb); clear hb)
    go_ret
    exact ⟨rfl, D.out⟩
  | true =>
    go_enter Try.func68, Try.ntmps68
    go_wp2_with (go_at_call 69; (with_reducible refine (impl_Disk_hasSector.calls A0 c0 l0 A1 c1 l1 x.f0 true _ ?r0 hc0 ?r1 hc1 HH.out).mono ?_); (case r0 => exact Kd.C_below HR0.out (below_alloc (Below.refl _ _) _)); (case r1 => exact Kd.C_below HR1.out (below_alloc (Below.refl _ _) _)); rintro e w' ⟨rfl, hb⟩; have hcp := (blk_cell (blk_below (blk_new W (.cells #[.int .i64 x.f0, .string x.f1] 92)) hb) 1).trans rfl; have D := Aside0.mk (below_then (below_alloc (Below.refl W.heap.size W) _) (below_alloc (Below.refl W.heap.size W) _).size hb); clear hb)
    go_ret
    exact ⟨rfl, D.out⟩

set_option maxHeartbeats 2000000 in
/-- slices.IndexFunc at this element type, over a predicate that a function value gives. -/
theorem impl_DiskOKa_idx (p : ByteArray → Bool) (g : Nat) (lb : Array Value) (A : Option Addr) (c : Nat) (l : List ByteArray) (w : World)
    (eg : ∀ args w, (callFunc g args).run Try.prog w = .ok (.enter g args) w)
    (hp : ∀ (W : World) (x : ByteArray), Drawn0 w W → Calls Try.prog g (#[.string x] ++ lb) W fun e W' => e = .returned (.bool (p x)) ∧ Drawn0 W W')
    (hr : Kd.C Kd.string w A l.length l) :
    Calls Try.prog 105 #[.slice A l.length c, .func (.func g) #[] lb] w fun e w' => e = .returned (.int .i64 (Lib.idxBy (fun _ y => p y) l ByteArray.empty)) ∧ Drawn0 w w' := by
  have hm : l.length ≤ 9223372036854775807 := hr.2.1
  by_cases hl : l = []
  · subst hl
    clear hp
    go_enter Try.func105, Try.ntmps105
    go_wp2
    go_loopg [5, 8] 0 (fun _ _ s8 wr => s8 = .int .i64 0 ∧ wr = w)
    case atStart => exact ⟨rfl, rfl⟩
    case round =>
      obtain ⟨rfl, rfl⟩ := hrel
      go_wp2
      go_ret
      exact ⟨rfl, Drawn0.refl _⟩
  · have hpos : 0 < l.length := List.length_pos_iff.mpr hl
    obtain ⟨ad, rfl, hx0⟩ := hr.2.2 hpos
    clear hx0 hl
    have HR := Aside0.mk hr
    clear hr
    have HP := Aside0.mk hp
    clear hp
    go_enter Try.func105, Try.ntmps105
    go_wp2
    go_loopg [5, 8] l.length (fun gg _ s8 wr => ∃ kk : Nat, kk ≤ l.length ∧ l.length - kk ≤ gg ∧ s8 = .int .i64 kk ∧ Aside0 (Drawn0 w wr) ∧ Aside0 (∀ j, j < kk → p (l.getD j ByteArray.empty) = false))
    case atStart => exact ⟨0, Nat.zero_le _, by omega, rfl, ⟨Drawn0.refl _⟩, ⟨fun j hj => absurd hj (Nat.not_lt_zero _)⟩⟩
    case round =>
      obtain ⟨kk, hkk, hg, rfl, D, B⟩ := hrel
      by_cases hlt : kk < l.length
      · have hltz : (kk : Int) < (l.length : Int) := by omega
        obtain ⟨ad2, e2, hx0⟩ := Kd.at_string (Kd.C_below HR.out D.out.below) (kk : Int) (by omega) hltz
        obtain rfl := Option.some.inj e2
        clear e2
        rw [Int.toNat_natCast] at hx0
        generalize hy : rdOf ByteArray.empty l (kk : Int) = y at hx0
        have Y : Aside0 (l.getD kk ByteArray.empty = y) := ⟨by rw [← hy]; simp [rdOf]⟩
        clear hy
        have hcall : ∀ W, Drawn0 w W → Calls Try.prog g (#[.string y] ++ lb) W fun e W' => e = .returned (.bool (p y)) ∧ Drawn0 W W' := fun W => HP.out W y
        have HC := Aside0.mk hcall
        clear hcall
        cases hq : p y with
        | true =>
          rw [hq] at HC
          have HQ := Aside0.mk hq
          clear hq
          go_wp2_with (go_at_fn g; refine (HC.out _ D.out).mono ?_; rintro e w' ⟨rfl, ⟨q, rfl⟩⟩)
          go_ret
          refine ⟨?_, D.out.step _⟩
          rw [idx_hit p l ByteArray.empty kk hlt (by rw [Y.out]; exact HQ.out) B.out]
          rfl
        | false =>
          rw [hq] at HC
          have HQ := Aside0.mk hq
          clear hq
          go_wp2_with (go_at_fn g; refine (HC.out _ D.out).mono ?_; rintro e w' ⟨rfl, ⟨q, rfl⟩⟩)
          go_roundg (l.length - (kk + 1))
          case measure => omega
          case rel =>
            refine ⟨kk + 1, by omega, by omega, by go_num, ⟨D.out.step _⟩, ⟨fun j hj => ?_⟩⟩
            by_cases e : j = kk
            · subst e
              rw [Y.out]
              exact HQ.out
            · exact B.out j (by omega)
      · have hltz : ¬ (kk : Int) < (l.length : Int) := by omega
        have hz : kk = l.length := by omega
        subst hz
        go_wp2
        go_ret
        refine ⟨?_, D.out⟩
        rw [idx_miss p l ByteArray.empty B.out]
        rfl

set_option maxHeartbeats 2000000 in
/-- slices.ContainsFunc at this element type. -/
theorem impl_DiskOKa_has (p : ByteArray → Bool) (g : Nat) (lb : Array Value) (A : Option Addr) (c : Nat) (l : List ByteArray) (w : World)
    (eg : ∀ args w, (callFunc g args).run Try.prog w = .ok (.enter g args) w)
    (hp : ∀ (W : World) (x : ByteArray), Drawn0 w W → Calls Try.prog g (#[.string x] ++ lb) W fun e W' => e = .returned (.bool (p x)) ∧ Drawn0 W W')
    (hr : Kd.C Kd.string w A l.length l) :
    Calls Try.prog 65 #[.slice A l.length c, .func (.func g) #[] lb] w fun e w' => e = .returned (.bool (l.any p)) ∧ Drawn0 w w' := by
  rw [show l.any p = decide (0 ≤ Lib.idxBy (fun _ y => p y) l ByteArray.empty) from (Lib.idxBy_nonneg_iff (fun _ y => p y) l ByteArray.empty).symm]
  have HI : Calls Try.prog 105 #[.slice A l.length c, .func (.func g) #[] lb] w fun e w' => e = .returned (.int .i64 (Lib.idxBy (fun _ y => p y) l ByteArray.empty)) ∧ Drawn0 w w' := impl_DiskOKa_idx p g lb A c l w eg hp hr
  clear hp hr
  generalize Lib.idxBy (fun _ y => p y) l ByteArray.empty = n at HI ⊢
  have HH := Aside0.mk HI
  clear HI
  go_enter Try.func65, Try.ntmps65
  go_wp2_with (go_at_call 105; refine (HH.out).mono ?_; rintro e w' ⟨rfl, ⟨q, rfl⟩⟩)
  go_ret
  exact ⟨rfl, ⟨⟨q, rfl⟩⟩⟩


set_option maxHeartbeats 2000000 in
/-- slices.IndexFunc at this element type, over a predicate that a function value gives. -/
theorem impl_DiskOKb_idx (p : S92 → Bool) (g : Nat) (lb : Array Value) (A : Option Addr) (c : Nat) (l : List S92) (w : World)
    (eg : ∀ args w, (callFunc g args).run Try.prog w = .ok (.enter g args) w)
    (hp : ∀ (W : World) (x : S92), Below w.heap.size w W → Calls Try.prog g (#[.agg #[.int .i64 x.f0, .string x.f1]] ++ lb) W fun e W' => e = .returned (.bool (p x)) ∧ Below W.heap.size W W')
    (hr : Kd.C k92 w A l.length l) :
    Calls Try.prog 106 #[.slice A l.length c, .func (.func g) #[] lb] w fun e w' => e = .returned (.int .i64 (Lib.idxBy (fun _ y => p y) l z92)) ∧ Below w.heap.size w w' := by
  have hm : l.length ≤ 9223372036854775807 := hr.2.1
  by_cases hl : l = []
  · subst hl
    clear hp
    go_enter Try.func106, Try.ntmps106
    go_wp2
    go_loopg [5, 8] 0 (fun _ _ s8 wr => s8 = .int .i64 0 ∧ wr = w)
    case atStart => exact ⟨rfl, rfl⟩
    case round =>
      obtain ⟨rfl, rfl⟩ := hrel
      go_wp2
      go_ret
      exact ⟨rfl, Below.refl _ _⟩
  · have hpos : 0 < l.length := List.length_pos_iff.mpr hl
    obtain ⟨ad, rfl, hx0⟩ := hr.2.2 hpos
    clear hx0 hl
    have HR := Aside0.mk hr
    clear hr
    have HP := Aside0.mk hp
    clear hp
    go_enter Try.func106, Try.ntmps106
    go_wp2
    go_loopg [5, 8] l.length (fun gg _ s8 wr => ∃ kk : Nat, kk ≤ l.length ∧ l.length - kk ≤ gg ∧ s8 = .int .i64 kk ∧ Aside0 (Below w.heap.size w wr) ∧ Aside0 (∀ j, j < kk → p (l.getD j z92) = false))
    case atStart => exact ⟨0, Nat.zero_le _, by omega, rfl, ⟨Below.refl _ _⟩, ⟨fun j hj => absurd hj (Nat.not_lt_zero _)⟩⟩
    case round =>
      obtain ⟨kk, hkk, hg, rfl, D, B⟩ := hrel
      by_cases hlt : kk < l.length
      · have hltz : (kk : Int) < (l.length : Int) := by omega
        obtain ⟨ad2, e2, hx0, hx1⟩ := at_T92 (Kd.C_below HR.out D.out) (kk : Int) (by omega) hltz
        obtain rfl := Option.some.inj e2
        clear e2
        rw [Int.toNat_natCast] at hx0 hx1
        generalize hy : rd_T92 l (kk : Int) = y at hx0 hx1
        have Y : Aside0 (l.getD kk z92 = y) := ⟨by rw [← hy]; simp [rd_T92]⟩
        clear hy
        have hcall : ∀ W, Below w.heap.size w W → Calls Try.prog g (#[.agg #[.int .i64 y.f0, .string y.f1]] ++ lb) W fun e W' => e = .returned (.bool (p y)) ∧ Below W.heap.size W W' := fun W => HP.out W y
        have HC := Aside0.mk hcall
        clear hcall
        cases hq : p y with
        | true =>
          rw [hq] at HC
          have HQ := Aside0.mk hq
          clear hq
          go_wp2_with (go_at_fn g; refine (HC.out _ D.out).mono ?_; rintro e w' ⟨rfl, hb⟩)
          go_ret
          refine ⟨?_, below_then D.out D.out.size hb⟩
          rw [idx_hit p l z92 kk hlt (by rw [Y.out]; exact HQ.out) B.out]
          rfl
        | false =>
          rw [hq] at HC
          have HQ := Aside0.mk hq
          clear hq
          go_wp2_with (go_at_fn g; refine (HC.out _ D.out).mono ?_; rintro e w' ⟨rfl, hb⟩)
          go_roundg (l.length - (kk + 1))
          case measure => omega
          case rel =>
            refine ⟨kk + 1, by omega, by omega, by go_num, ⟨below_then D.out D.out.size hb⟩, ⟨fun j hj => ?_⟩⟩
            by_cases e : j = kk
            · subst e
              rw [Y.out]
              exact HQ.out
            · exact B.out j (by omega)
      · have hltz : ¬ (kk : Int) < (l.length : Int) := by omega
        have hz : kk = l.length := by omega
        subst hz
        go_wp2
        go_ret
        refine ⟨?_, D.out⟩
        rw [idx_miss p l z92 B.out]
        rfl

set_option maxHeartbeats 2000000 in
/-- slices.ContainsFunc at this element type. -/
theorem impl_DiskOKb_has (p : S92 → Bool) (g : Nat) (lb : Array Value) (A : Option Addr) (c : Nat) (l : List S92) (w : World)
    (eg : ∀ args w, (callFunc g args).run Try.prog w = .ok (.enter g args) w)
    (hp : ∀ (W : World) (x : S92), Below w.heap.size w W → Calls Try.prog g (#[.agg #[.int .i64 x.f0, .string x.f1]] ++ lb) W fun e W' => e = .returned (.bool (p x)) ∧ Below W.heap.size W W')
    (hr : Kd.C k92 w A l.length l) :
    Calls Try.prog 67 #[.slice A l.length c, .func (.func g) #[] lb] w fun e w' => e = .returned (.bool (l.any p)) ∧ Below w.heap.size w w' := by
  rw [show l.any p = decide (0 ≤ Lib.idxBy (fun _ y => p y) l z92) from (Lib.idxBy_nonneg_iff (fun _ y => p y) l z92).symm]
  have HI : Calls Try.prog 106 #[.slice A l.length c, .func (.func g) #[] lb] w fun e w' => e = .returned (.int .i64 (Lib.idxBy (fun _ y => p y) l z92)) ∧ Below w.heap.size w w' := impl_DiskOKb_idx p g lb A c l w eg hp hr
  clear hp hr
  generalize Lib.idxBy (fun _ y => p y) l z92 = n at HI ⊢
  have HH := Aside0.mk HI
  clear HI
  go_enter Try.func67, Try.ntmps67
  go_wp2_with (go_at_call 106; refine (HH.out).mono ?_; rintro e w' ⟨rfl, hb⟩)
  go_ret
  exact ⟨rfl, hb⟩

set_option maxHeartbeats 4000000 in
set_option maxRecDepth 100000 in
theorem impl_DiskOK.calls (A0_0 : Option Addr) (c0_0 : Nat) (l0_0 : List ByteArray) (A0_1 : Option Addr) (c0_1 : Nat) (l0_1 : List S92) (r : Bool) (w : World) (hr0_0 : Kd.C Kd.string w A0_0 l0_0.length l0_0) (hc0_0 : l0_0.length ≤ c0_0) (hr0_1 : Kd.C k92 w A0_1 l0_1.length l0_1) (hc0_1 : l0_1.length ≤ c0_1) (h : impl_DiskOK.f l0_0 l0_1 = some r) :
    Calls Try.prog 24 #[.agg #[.slice A0_0 l0_0.length c0_0, .slice A0_1 l0_1.length c0_1]] w fun e w' => e = .returned (.bool r) ∧ Below w.heap.size w w' := by
  have hud := Try.underlying39
  have HR0 := Aside0.mk hr0_0
  have HR1 := Aside0.mk hr0_1
  clear hr0_0 hr0_1
  obtain rfl := Option.some.inj h
  clear h
  have hw := impl_DiskOK.w_some (l0_0.length : Int) 1 256
  generalize impl_DiskOK.w (l0_0.length : Int) 1 256 = b1 at hw ⊢
  have HW := Aside0.mk hw
  clear hw
  have ha : ∀ W, Kd.C Kd.string W A0_0 l0_0.length l0_0 → Calls Try.prog 65 #[.slice A0_0 l0_0.length c0_0, .func (.func 66) #[] #[]] W fun e w' => e = .returned (.bool (l0_0.any impl_DiskOK.p)) ∧ Drawn0 W w' := fun W hC =>
    impl_DiskOKa_has impl_DiskOK.p 66 #[] A0_0 c0_0 l0_0 W (enters_of Try.func66 (by kernel_rfl) rfl) (fun W' x _ => impl_DiskOK_1.calls x _ W' (impl_DiskOK.p_some x)) hC
  generalize l0_0.any impl_DiskOK.p = b2 at ha ⊢
  have HA := Aside0.mk ha
  clear ha
  have hb : ∀ W g, W.heap[g]? = some (.cells #[.slice A0_0 l0_0.length c0_0, .slice A0_1 l0_1.length c0_1] 39 (0, 0)) → Kd.C Kd.string W A0_0 l0_0.length l0_0 → Kd.C k92 W A0_1 l0_1.length l0_1 → Calls Try.prog 67 #[.slice A0_1 l0_1.length c0_1, .func (.func 68) #[] #[.pointer (some ⟨g, 0, none⟩)]] W fun e w' => e = .returned (.bool (l0_1.any (impl_DiskOK.q l0_0 l0_1))) ∧ Below W.heap.size W w' := fun W g hg hC0 hC1 =>
    impl_DiskOKb_has (impl_DiskOK.q l0_0 l0_1) 68 #[.pointer (some ⟨g, 0, none⟩)] A0_1 c0_1 l0_1 W (enters_of Try.func68 (by kernel_rfl) rfl) (fun W' x hW => by simpa using impl_DiskOK.second g A0_0 A0_1 c0_0 c0_1 l0_0 l0_1 x W' (blk_below hg hW) (Kd.C_below hC0 hW) hc0_0 (Kd.C_below hC1 hW) hc0_1) hC1
  generalize l0_1.any (impl_DiskOK.q l0_0 l0_1) = b4 at hb ⊢
  have HB4 := Aside0.mk hb
  clear hb
  have hl := (rfl : decide ((l0_1.length : Int) ≤ 4096) = decide ((l0_1.length : Int) ≤ 4096))
  generalize hq : decide ((l0_1.length : Int) ≤ 4096) = b3 at hl ⊢
  clear hl
  cases b1 <;> cases b2 <;> cases b3 <;> (
    go_enter Try.func24, Try.ntmps24
    go_wp2_with (first
      | (go_at_call 64; (with_reducible refine (impl_within.calls (l0_0.length : Int) 1 256 _ _ HW.out).mono ?_); rintro e w' ⟨rfl, hd⟩; have D := Aside0.mk (below_then (below_alloc (Below.refl w.heap.size w) _) (below_alloc (Below.refl w.heap.size w) _).size hd.below); have BK := Aside0.mk (blk_below (blk_new w (.cells #[.slice A0_0 l0_0.length c0_0, .slice A0_1 l0_1.length c0_1] 39)) hd.below); clear hd; have hca0 := (blk_cell BK.out 0).trans rfl; have hca1 := (blk_cell BK.out 1).trans rfl)
      | (go_at_call 65; (with_reducible refine (HA.out _ (Kd.C_below HR0.out D.out)).mono ?_); rintro e w2 ⟨rfl, hd⟩; have D2 := Aside0.mk (below_then D.out D.out.size hd.below); have BK2 := Aside0.mk (blk_below BK.out hd.below); clear hd; have hcb0 := (blk_cell BK2.out 0).trans rfl; have hcb1 := (blk_cell BK2.out 1).trans rfl)
      | (go_at_call 67; (with_reducible refine (HB4.out _ _ BK2.out (Kd.C_below HR0.out D2.out) (Kd.C_below HR1.out D2.out)).mono ?_); rintro e w3 ⟨rfl, hd⟩; have D3 := Aside0.mk (below_then D2.out D2.out.size hd); clear hd))
    go_ret
    first
      | exact ⟨rfl, D3.out⟩
      | exact ⟨by simp, D3.out⟩
      | exact ⟨rfl, D2.out⟩
      | exact ⟨rfl, D.out⟩)

end Go.Proofs.Ytagdjkdnblpghaa.XD
