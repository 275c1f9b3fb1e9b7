-- Written for this claim: a contract of one function, proved by hand; the places of its template filled by a program.
import Derived.Test.YtcefdpjlpjgaiaaXK0
import Derived.Test.YtcefdpjlpjgaiaaXK4
import Derived.Lib.SlBy
import Derived.Lib.Walk
import Derived.Shelf.Abstract
import Derived.Test.YtcefdpjlpjgaiaaWGuard
namespace Go.Proofs.Ytcefdpjlpjgaiaa.XK
open Go Go.RowKit Go.Proofs.YtcefdpjlpjgaiaaW.PrintWords Go.Proofs.YtcefdpjlpjgaiaaW.PrintLast Go.Proofs.YtcefdpjlpjgaiaaW.PrintMore
set_option linter.unusedVariables false
set_option linter.unusedSimpArgs false
open Go.Proofs.Ytcefdpjlpjgaiaa.Xtra
attribute [local go_sem] Go.Proofs.Ytcefdpjlpjgaiaa.Xtra.binOp_gtr Go.Proofs.Ytcefdpjlpjgaiaa.Xtra.binOp_leq Go.Proofs.Ytcefdpjlpjgaiaa.Xtra.binOp_geq
def impl_nodeOK.win (x lo hi : Int) : Bool := (impl_within.f x lo hi).getD false
theorem impl_nodeOK.win_some (x lo hi : Int) : impl_within.f x lo hi = some (impl_nodeOK.win x lo hi) := by
  unfold impl_nodeOK.win impl_within.f
  split <;> rfl
/-- What the first closure tells of a text, and the second of a number. -/
def impl_nodeOK.p (s : ByteArray) : Bool := (impl_nodeOK_1.f s).getD false
theorem impl_nodeOK.p_some (s : ByteArray) : impl_nodeOK_1.f s = some (impl_nodeOK.p s) := rfl
def impl_nodeOK.q (index x : Int) : Bool := !impl_nodeOK.win x 0 (wrap64 (index - 1))
/-- One key is right, where it stands. -/
def impl_nodeOK.kr (l : List ByteArray) (i : Nat) : Bool :=
  !decide ((80 : Int) < ((rdOf ByteArray.empty l (i : Int)).size : Int)) && (!decide (0 < i) || Op.bytesLess (rdOf ByteArray.empty l ((i : Int) - 1)).toList (rdOf ByteArray.empty l (i : Int)).toList)
def impl_nodeOK.f (a0_0 : Bool) (l0_1 l0_2 : List ByteArray) (l0_3 : List Int) (a1 : Int) : Option Bool :=
  some ((List.range l0_1.length).all (impl_nodeOK.kr l0_1) && (impl_nodeOK.win (l0_1.length : Int) 1 4 && (if a0_0 = true then ((l0_2.length : Int) == (l0_1.length : Int)) && (((l0_3.length : Int) == 0) && !l0_2.any impl_nodeOK.p) else ((l0_2.length : Int) == 0) && (((l0_3.length : Int) == wrap64 ((l0_1.length : Int) + 1)) && !l0_3.any (impl_nodeOK.q a1)))))
theorem impl_nodeOK.all_miss (l : List ByteArray) (kk : Nat) (h : kk < l.length) (hb : impl_nodeOK.kr l kk = false) : (List.range l.length).all (impl_nodeOK.kr l) = false := by
  rw [List.all_eq_false]
  exact ⟨kk, by simpa using h, by simpa using hb⟩
theorem impl_nodeOK.all_hit (l : List ByteArray) (h : ∀ j, j < l.length → impl_nodeOK.kr l j = true) : (List.range l.length).all (impl_nodeOK.kr l) = true := by
  rw [List.all_eq_true]
  exact fun j hj => h j (by simpa using hj)
set_option maxHeartbeats 2000000 in
theorem impl_nodeOK.second (g : Nat) (index x : Int) (W : World) (hb : W.heap[g]? = some (.cells #[.int .i64 index] 3 (0, 0))) :
    Calls Try.prog 60 #[.int .i64 x, .pointer (some ⟨g, 0, none⟩)] W fun e W' => e = .returned (.bool (impl_nodeOK.q index x)) ∧ Below W.heap.size W W' := by
  have hx0 : W.cell? ⟨g, 0, none⟩ = some (.int .i64 index) := (blk_cell hb 0).trans rfl
  clear hb
  unfold impl_nodeOK.q
  have hh := impl_nodeOK.win_some x 0 (wrap64 (index - 1))
  generalize impl_nodeOK.win x 0 (wrap64 (index - 1)) = b at hh ⊢
  have HH := Aside0.mk hh
  clear hh
  cases b <;> (
    go_enter Try.func60, Try.ntmps60
    go_wp2_with (go_at_call 37; (try simp only [i64_w]); (with_reducible refine (impl_within.calls x 0 (wrap64 (index - 1)) _ _ HH.out).mono ?_); rintro e w' ⟨rfl, hd⟩; have D := Aside0.mk hd.below; clear hd)
    go_ret
    exact ⟨rfl, D.out⟩)

set_option maxHeartbeats 2000000 in
/-- slices.IndexFunc at this element type, over a predicate that a function value gives. -/
theorem impl_nodeOKa_idx (p : ByteArray → Bool) (g : Nat) (lb : Array Value) (A : Option Addr) (c : Nat) (l : List ByteArray) (w : World)
    (eg : ∀ args w, (callFunc g args).run Try.prog w = .ok (.enter g args) w)
    (hp : ∀ (W : World) (x : ByteArray), Drawn0 w W → Calls Try.prog g (#[.string x] ++ lb) W fun e W' => e = .returned (.bool (p x)) ∧ Drawn0 W W')
    (hr : Kd.C Kd.string w A l.length l) :
    Calls Try.prog 62 #[.slice A l.length c, .func (.func g) #[] lb] w fun e w' => e = .returned (.int .i64 (Lib.idxBy (fun _ y => p y) l ByteArray.empty)) ∧ Drawn0 w w' := by
  have hm : l.length ≤ 9223372036854775807 := hr.2.1
  by_cases hl : l = []
  · subst hl
    clear hp
    go_enter Try.func62, Try.ntmps62
    go_wp2
    go_loopg [5, 8] 0 (fun _ _ s8 wr => s8 = .int .i64 0 ∧ wr = w)
    case atStart => exact ⟨rfl, rfl⟩
    case round =>
      obtain ⟨rfl, rfl⟩ := hrel
      go_wp2
      go_ret
      exact ⟨rfl, Drawn0.refl _⟩
  · have hpos : 0 < l.length := List.length_pos_iff.mpr hl
    obtain ⟨ad, rfl, hx0⟩ := hr.2.2 hpos
    clear hx0 hl
    have HR := Aside0.mk hr
    clear hr
    have HP := Aside0.mk hp
    clear hp
    go_enter Try.func62, Try.ntmps62
    go_wp2
    go_loopg [5, 8] l.length (fun gg _ s8 wr => ∃ kk : Nat, kk ≤ l.length ∧ l.length - kk ≤ gg ∧ s8 = .int .i64 kk ∧ Aside0 (Drawn0 w wr) ∧ Aside0 (∀ j, j < kk → p (l.getD j ByteArray.empty) = false))
    case atStart => exact ⟨0, Nat.zero_le _, by omega, rfl, ⟨Drawn0.refl _⟩, ⟨fun j hj => absurd hj (Nat.not_lt_zero _)⟩⟩
    case round =>
      obtain ⟨kk, hkk, hg, rfl, D, B⟩ := hrel
      by_cases hlt : kk < l.length
      · have hltz : (kk : Int) < (l.length : Int) := by omega
        obtain ⟨ad2, e2, hx0⟩ := Kd.at_string (Kd.C_below HR.out D.out.below) (kk : Int) (by omega) hltz
        obtain rfl := Option.some.inj e2
        clear e2
        rw [Int.toNat_natCast] at hx0
        generalize hy : rdOf ByteArray.empty l (kk : Int) = y at hx0
        have Y : Aside0 (l.getD kk ByteArray.empty = y) := ⟨by rw [← hy]; simp [rdOf]⟩
        clear hy
        have hcall : ∀ W, Drawn0 w W → Calls Try.prog g (#[.string y] ++ lb) W fun e W' => e = .returned (.bool (p y)) ∧ Drawn0 W W' := fun W => HP.out W y
        have HC := Aside0.mk hcall
        clear hcall
        cases hq : p y with
        | true =>
          rw [hq] at HC
          have HQ := Aside0.mk hq
          clear hq
          go_wp2_with (go_at_fn g; refine (HC.out _ D.out).mono ?_; rintro e w' ⟨rfl, ⟨q, rfl⟩⟩)
          go_ret
          refine ⟨?_, D.out.step _⟩
          rw [idx_hit p l ByteArray.empty kk hlt (by rw [Y.out]; exact HQ.out) B.out]
          rfl
        | false =>
          rw [hq] at HC
          have HQ := Aside0.mk hq
          clear hq
          go_wp2_with (go_at_fn g; refine (HC.out _ D.out).mono ?_; rintro e w' ⟨rfl, ⟨q, rfl⟩⟩)
          go_roundg (l.length - (kk + 1))
          case measure => omega
          case rel =>
            refine ⟨kk + 1, by omega, by omega, by go_num, ⟨D.out.step _⟩, ⟨fun j hj => ?_⟩⟩
            by_cases e : j = kk
            · subst e
              rw [Y.out]
              exact HQ.out
            · exact B.out j (by omega)
      · have hltz : ¬ (kk : Int) < (l.length : Int) := by omega
        have hz : kk = l.length := by omega
        subst hz
        go_wp2
        go_ret
        refine ⟨?_, D.out⟩
        rw [idx_miss p l ByteArray.empty B.out]
        rfl

set_option maxHeartbeats 2000000 in
/-- slices.ContainsFunc at this element type. -/
theorem impl_nodeOKa_has (p : ByteArray → Bool) (g : Nat) (lb : Array Value) (A : Option Addr) (c : Nat) (l : List ByteArray) (w : World)
    (eg : ∀ args w, (callFunc g args).run Try.prog w = .ok (.enter g args) w)
    (hp : ∀ (W : World) (x : ByteArray), Drawn0 w W → Calls Try.prog g (#[.string x] ++ lb) W fun e W' => e = .returned (.bool (p x)) ∧ Drawn0 W W')
    (hr : Kd.C Kd.string w A l.length l) :
    Calls Try.prog 57 #[.slice A l.length c, .func (.func g) #[] lb] w fun e w' => e = .returned (.bool (l.any p)) ∧ Drawn0 w w' := by
  rw [show l.any p = decide (0 ≤ Lib.idxBy (fun _ y => p y) l ByteArray.empty) from (Lib.idxBy_nonneg_iff (fun _ y => p y) l ByteArray.empty).symm]
  have HI : Calls Try.prog 62 #[.slice A l.length c, .func (.func g) #[] lb] w fun e w' => e = .returned (.int .i64 (Lib.idxBy (fun _ y => p y) l ByteArray.empty)) ∧ Drawn0 w w' := impl_nodeOKa_idx p g lb A c l w eg hp hr
  clear hp hr
  generalize Lib.idxBy (fun _ y => p y) l ByteArray.empty = n at HI ⊢
  have HH := Aside0.mk HI
  clear HI
  go_enter Try.func57, Try.ntmps57
  go_wp2_with (go_at_call 62; refine (HH.out).mono ?_; rintro e w' ⟨rfl, ⟨q, rfl⟩⟩)
  go_ret
  exact ⟨rfl, ⟨⟨q, rfl⟩⟩⟩


set_option maxHeartbeats 2000000 in
/-- slices.IndexFunc at this element type, over a predicate that a function value gives. -/
theorem impl_nodeOKb_idx (p : Int → Bool) (g : Nat) (lb : Array Value) (A : Option Addr) (c : Nat) (l : List Int) (w : World)
    (eg : ∀ args w, (callFunc g args).run Try.prog w = .ok (.enter g args) w)
    (hp : ∀ (W : World) (x : Int), Below w.heap.size w W → Calls Try.prog g (#[.int .i64 x] ++ lb) W fun e W' => e = .returned (.bool (p x)) ∧ Below W.heap.size W W')
    (hr : Kd.C (Kd.int .i64) w A l.length l) :
    Calls Try.prog 51 #[.slice A l.length c, .func (.func g) #[] lb] w fun e w' => e = .returned (.int .i64 (Lib.idxBy (fun _ y => p y) l 0)) ∧ Below w.heap.size w w' := by
  have hm : l.length ≤ 9223372036854775807 := hr.2.1
  by_cases hl : l = []
  · subst hl
    clear hp
    go_enter Try.func51, Try.ntmps51
    go_wp2
    go_loopg [5, 8] 0 (fun _ _ s8 wr => s8 = .int .i64 0 ∧ wr = w)
    case atStart => exact ⟨rfl, rfl⟩
    case round =>
      obtain ⟨rfl, rfl⟩ := hrel
      go_wp2
      go_ret
      exact ⟨rfl, Below.refl _ _⟩
  · have hpos : 0 < l.length := List.length_pos_iff.mpr hl
    obtain ⟨ad, rfl, hx0⟩ := hr.2.2 hpos
    clear hx0 hl
    have HR := Aside0.mk hr
    clear hr
    have HP := Aside0.mk hp
    clear hp
    go_enter Try.func51, Try.ntmps51
    go_wp2
    go_loopg [5, 8] l.length (fun gg _ s8 wr => ∃ kk : Nat, kk ≤ l.length ∧ l.length - kk ≤ gg ∧ s8 = .int .i64 kk ∧ Aside0 (Below w.heap.size w wr) ∧ Aside0 (∀ j, j < kk → p (l.getD j 0) = false))
    case atStart => exact ⟨0, Nat.zero_le _, by omega, rfl, ⟨Below.refl _ _⟩, ⟨fun j hj => absurd hj (Nat.not_lt_zero _)⟩⟩
    case round =>
      obtain ⟨kk, hkk, hg, rfl, D, B⟩ := hrel
      by_cases hlt : kk < l.length
      · have hltz : (kk : Int) < (l.length : Int) := by omega
        obtain ⟨ad2, e2, hx0⟩ := Kd.at_int (Kd.C_below HR.out D.out) (kk : Int) (by omega) hltz
        obtain rfl := Option.some.inj e2
        clear e2
        rw [Int.toNat_natCast] at hx0
        generalize hy : rd l (kk : Int) = y at hx0
        have Y : Aside0 (l.getD kk 0 = y) := ⟨by rw [← hy]; simp [rd]⟩
        clear hy
        have hcall : ∀ W, Below w.heap.size w W → Calls Try.prog g (#[.int .i64 y] ++ lb) W fun e W' => e = .returned (.bool (p y)) ∧ Below W.heap.size W W' := fun W => HP.out W y
        have HC := Aside0.mk hcall
        clear hcall
        cases hq : p y with
        | true =>
          rw [hq] at HC
          have HQ := Aside0.mk hq
          clear hq
          go_wp2_with (go_at_fn g; refine (HC.out _ D.out).mono ?_; rintro e w' ⟨rfl, hb⟩)
          go_ret
          refine ⟨?_, below_then D.out D.out.size hb⟩
          rw [idx_hit p l 0 kk hlt (by rw [Y.out]; exact HQ.out) B.out]
          rfl
        | false =>
          rw [hq] at HC
          have HQ := Aside0.mk hq
          clear hq
          go_wp2_with (go_at_fn g; refine (HC.out _ D.out).mono ?_; rintro e w' ⟨rfl, hb⟩)
          go_roundg (l.length - (kk + 1))
          case measure => omega
          case rel =>
            refine ⟨kk + 1, by omega, by omega, by go_num, ⟨below_then D.out D.out.size hb⟩, ⟨fun j hj => ?_⟩⟩
            by_cases e : j = kk
            · subst e
              rw [Y.out]
              exact HQ.out
            · exact B.out j (by omega)
      · have hltz : ¬ (kk : Int) < (l.length : Int) := by omega
        have hz : kk = l.length := by omega
        subst hz
        go_wp2
        go_ret
        refine ⟨?_, D.out⟩
        rw [idx_miss p l 0 B.out]
        rfl

set_option maxHeartbeats 2000000 in
/-- slices.ContainsFunc at this element type. -/
theorem impl_nodeOKb_has (p : Int → Bool) (g : Nat) (lb : Array Value) (A : Option Addr) (c : Nat) (l : List Int) (w : World)
    (eg : ∀ args w, (callFunc g args).run Try.prog w = .ok (.enter g args) w)
    (hp : ∀ (W : World) (x : Int), Below w.heap.size w W → Calls Try.prog g (#[.int .i64 x] ++ lb) W fun e W' => e = .returned (.bool (p x)) ∧ Below W.heap.size W W')
    (hr : Kd.C (Kd.int .i64) w A l.length l) :
    Calls Try.prog 35 #[.slice A l.length c, .func (.func g) #[] lb] w fun e w' => e = .returned (.bool (l.any p)) ∧ Below w.heap.size w w' := by
  rw [show l.any p = decide (0 ≤ Lib.idxBy (fun _ y => p y) l 0) from (Lib.idxBy_nonneg_iff (fun _ y => p y) l 0).symm]
  have HI : Calls Try.prog 51 #[.slice A l.length c, .func (.func g) #[] lb] w fun e w' => e = .returned (.int .i64 (Lib.idxBy (fun _ y => p y) l 0)) ∧ Below w.heap.size w w' := impl_nodeOKb_idx p g lb A c l w eg hp hr
  clear hp hr
  generalize Lib.idxBy (fun _ y => p y) l 0 = n at HI ⊢
  have HH := Aside0.mk HI
  clear HI
  go_enter Try.func35, Try.ntmps35
  go_wp2_with (go_at_call 51; refine (HH.out).mono ?_; rintro e w' ⟨rfl, hb⟩)
  go_ret
  exact ⟨rfl, hb⟩

set_option maxHeartbeats 8000000 in
set_option maxRecDepth 100000 in
theorem impl_nodeOK.calls (a0_0 : Bool) (A0_1 : Option Addr) (c0_1 : Nat) (l0_1 : List ByteArray) (A0_2 : Option Addr) (c0_2 : Nat) (l0_2 : List ByteArray) (A0_3 : Option Addr) (c0_3 : Nat) (l0_3 : List Int) (a1 : Int) (r : Bool) (w : World) (hr0_1 : Kd.C Kd.string w A0_1 l0_1.length l0_1) (hc0_1 : l0_1.length ≤ c0_1) (hr0_2 : Kd.C Kd.string w A0_2 l0_2.length l0_2) (hc0_2 : l0_2.length ≤ c0_2) (hr0_3 : Kd.C (Kd.int .i64) w A0_3 l0_3.length l0_3) (hc0_3 : l0_3.length ≤ c0_3) (h : impl_nodeOK.f a0_0 l0_1 l0_2 l0_3 a1 = some r) :
    Calls Try.prog 50 #[.agg #[.bool a0_0, .slice A0_1 l0_1.length c0_1, .slice A0_2 l0_2.length c0_2, .slice A0_3 l0_3.length c0_3], .int .i64 a1] w fun e w' => e = .returned (.bool r) ∧ Below w.heap.size w w' := by
  have hu := Try.underlying58
  obtain rfl := Option.some.inj h
  clear h
  have hm : l0_1.length ≤ 9223372036854775807 := hr0_1.2.1
  have HR := Aside0.mk hr0_1
  have HR2 := Aside0.mk hr0_2
  have HR3 := Aside0.mk hr0_3
  clear hr0_1 hr0_2 hr0_3
  have hw := impl_nodeOK.win_some (l0_1.length : Int) 1 4
  generalize impl_nodeOK.win (l0_1.length : Int) 1 4 = b1 at hw ⊢
  have HW := Aside0.mk hw
  clear hw
  have ha : ∀ W, Kd.C Kd.string W A0_2 l0_2.length l0_2 → Calls Try.prog 57 #[.slice A0_2 l0_2.length c0_2, .func (.func 58) #[] #[]] W fun e w' => e = .returned (.bool (l0_2.any impl_nodeOK.p)) ∧ Drawn0 W w' := fun W hC =>
    impl_nodeOKa_has impl_nodeOK.p 58 #[] A0_2 c0_2 l0_2 W (enters_of Try.func58 (by kernel_rfl) rfl) (fun W' x _ => impl_nodeOK_1.calls x _ W' (impl_nodeOK.p_some x)) hC
  generalize l0_2.any impl_nodeOK.p = b2 at ha ⊢
  have HA := Aside0.mk ha
  clear ha
  have hb : ∀ W g, W.heap[g]? = some (.cells #[.int .i64 a1] 3 (0, 0)) → Kd.C (Kd.int .i64) W A0_3 l0_3.length l0_3 → Calls Try.prog 35 #[.slice A0_3 l0_3.length c0_3, .func (.func 60) #[] #[.pointer (some ⟨g, 0, none⟩)]] W fun e w' => e = .returned (.bool (l0_3.any (impl_nodeOK.q a1))) ∧ Below W.heap.size W w' := fun W g hg hC =>
    impl_nodeOKb_has (impl_nodeOK.q a1) 60 #[.pointer (some ⟨g, 0, none⟩)] A0_3 c0_3 l0_3 W (enters_of Try.func60 (by kernel_rfl) rfl) (fun W' x hW => by simpa using impl_nodeOK.second g a1 x W' (blk_below hg hW)) hC
  generalize l0_3.any (impl_nodeOK.q a1) = b3 at hb ⊢
  have HB := Aside0.mk hb
  clear hb
  generalize he1 : ((l0_2.length : Int) == (l0_1.length : Int)) = e1
  generalize he2 : ((l0_3.length : Int) == 0) = e2
  generalize he3 : ((l0_2.length : Int) == 0) = e3
  generalize he4 : ((l0_3.length : Int) == wrap64 ((l0_1.length : Int) + 1)) = e4
  have he5 : ((l0_3.length : Int) == IntKind.i64.wrap ((l0_1.length : Int) + 1)) = e4 := by rw [i64_w]; exact he4
  obtain ⟨T, hT⟩ : ∃ T, T = (b1 && (if a0_0 = true then e1 && (e2 && !b2) else e3 && (e4 && !b3))) := ⟨_, rfl⟩
  rw [← hT]
  have HT := Aside0.mk hT
  clear hT
  have B0 := Aside0.mk (below_alloc (below_alloc (Below.refl w.heap.size w) (.cells #[.bool a0_0, .slice A0_1 l0_1.length c0_1, .slice A0_2 l0_2.length c0_2, .slice A0_3 l0_3.length c0_3] 58 (0, 0))) (.cells #[.int .i64 a1] 3 (0, 0)))
  have BI0 := Aside0.mk (blk_new (w.alloc (.cells #[.bool a0_0, .slice A0_1 l0_1.length c0_1, .slice A0_2 l0_2.length c0_2, .slice A0_3 l0_3.length c0_3] 58 (0, 0))) (.cells #[.int .i64 a1] 3 (0, 0)))
  have BN0 := Aside0.mk (blk_alloc (blk_new w (.cells #[.bool a0_0, .slice A0_1 l0_1.length c0_1, .slice A0_2 l0_2.length c0_2, .slice A0_3 l0_3.length c0_3] 58 (0, 0))) (.cells #[.int .i64 a1] 3 (0, 0)))
  go_enter Try.func50, Try.ntmps50
  go_wp2
  obtain ⟨gn, hgn⟩ : ∃ gn, gn = w.heap.size := ⟨_, rfl⟩
  obtain ⟨gi, hgi⟩ : ∃ gi, gi = w.heap.size + 1 := ⟨_, rfl⟩
  have hsz : (w.alloc (.cells #[.bool a0_0, .slice A0_1 l0_1.length c0_1, .slice A0_2 l0_2.length c0_2, .slice A0_3 l0_3.length c0_3] 58 (0, 0))).heap.size = gi := by rw [hgi]; simp
  rw [hsz] at BI0
  rw [← hgn] at BN0
  try rw [← hgi]
  try rw [← hgn]
  clear hgn hgi hsz
  go_loopg [10] l0_1.length (fun gg sl wr => ∃ kk : Nat, kk ≤ l0_1.length ∧ l0_1.length - kk ≤ gg ∧ sl = .int .i64 kk ∧ Aside0 (wr.heap[gn]? = some (.cells #[.bool a0_0, .slice A0_1 l0_1.length c0_1, .slice A0_2 l0_2.length c0_2, .slice A0_3 l0_3.length c0_3] 58 (0, 0))) ∧ Aside0 (wr.heap[gi]? = some (.cells #[.int .i64 a1] 3 (0, 0))) ∧ Aside0 (Below w.heap.size w wr) ∧ Aside0 (∀ j, j < kk → impl_nodeOK.kr l0_1 j = true))
  case atStart => exact ⟨0, Nat.zero_le _, by omega, rfl, ⟨BN0.out⟩, ⟨BI0.out⟩, ⟨B0.out⟩, ⟨fun j hj => absurd hj (Nat.not_lt_zero _)⟩⟩
  case round =>
    obtain ⟨kk, hkk, hg, rfl, BN, BI, D, B⟩ := hrel
    have hcz0 : wr.cell? ⟨gn, 0, none⟩ = some (.bool a0_0) := (blk_cell BN.out 0).trans rfl
    have hcz1 : wr.cell? ⟨gn, 1, none⟩ = some (.slice A0_1 l0_1.length c0_1) := (blk_cell BN.out 1).trans rfl
    have hcz2 : wr.cell? ⟨gn, 2, none⟩ = some (.slice A0_2 l0_2.length c0_2) := (blk_cell BN.out 2).trans rfl
    have hcz3 : wr.cell? ⟨gn, 3, none⟩ = some (.slice A0_3 l0_3.length c0_3) := (blk_cell BN.out 3).trans rfl
    by_cases hlt : kk < l0_1.length
    · have hltz : (kk : Int) < (l0_1.length : Int) := by omega
      have hltb : decide ((kk : Int) < (l0_1.length : Int)) = true := decide_eq_true hltz
      obtain ⟨ad, e2_, hx0⟩ := Kd.at_string (Kd.C_below HR.out D.out) (kk : Int) (by omega) hltz
      cases e2_
      rw [Int.toNat_natCast] at hx0
      have hp : kk = 0 ∨ (0 < kk ∧ ∃ y, rdOf ByteArray.empty l0_1 ((kk : Int) - 1) = y ∧ wr.cell? (ad.add (kk - 1)) = some (.string y)) := by
        rcases Nat.eq_zero_or_pos kk with e | e
        · exact .inl e
        · refine .inr ⟨e, _, rfl, ?_⟩
          obtain ⟨ad2, e2_, hy0⟩ := Kd.at_string (Kd.C_below HR.out D.out) ((kk : Int) - 1) (by omega) (by omega)
          obtain rfl := Option.some.inj e2_
          rw [show ((kk : Int) - 1).toNat = kk - 1 by omega] at hy0
          exact hy0
      have hwr : impl_nodeOK.kr l0_1 kk = (!decide ((80 : Int) < ((rdOf ByteArray.empty l0_1 (kk : Int)).size : Int)) && (!decide (0 < kk) || Op.bytesLess (rdOf ByteArray.empty l0_1 ((kk : Int) - 1)).toList (rdOf ByteArray.empty l0_1 (kk : Int)).toList)) := rfl
      obtain ⟨x0, hx⟩ : ∃ x, x = rdOf ByteArray.empty l0_1 (kk : Int) := ⟨_, rfl⟩
      rw [← hx] at hx0 hwr
      clear hx
      have HWR := Aside0.mk hwr
      clear hwr
      have HP := Aside0.mk hp
      clear hp
      cases k1 : decide ((80 : Int) < (x0.size : Int)) with
      | true =>
        go_wp2
        go_ret
        refine ⟨?_, D.out⟩
        rw [impl_nodeOK.all_miss l0_1 kk hlt (by rw [HWR.out]; simp [k1])]
        rfl
      | false =>
        rcases HP.out with e | ⟨e, y, hye, hy⟩
        · have k5b : decide ((0 : Int) < (kk : Int)) = false := decide_eq_false (by omega)
          have k5n : decide (0 < kk) = false := decide_eq_false (by omega)
          clear e
          go_wp2
          go_roundg (l0_1.length - (kk + 1))
          case measure => omega
          case rel =>
            refine ⟨kk + 1, by omega, by omega, by go_num, ⟨BN.out⟩, ⟨BI.out⟩, ⟨D.out⟩, ⟨fun j hj => ?_⟩⟩
            by_cases e : j = kk
            · subst e
              rw [HWR.out]
              simp [k1, k5n]
            · exact B.out j (by omega)
        · have k5b : decide ((0 : Int) < (kk : Int)) = true := decide_eq_true (by omega)
          have k5n : decide (0 < kk) = true := decide_eq_true (by omega)
          have k6 : IntKind.i64.wrap ((kk : Int) - 1) = (kk : Int) - 1 := by rw [i64_w]; unfold wrap64; omega
          have k7 : ((kk : Int) - 1).toNat = kk - 1 := by omega
          have k8 : 0 ≤ (kk : Int) - 1 := by omega
          have k9 : (kk : Int) - 1 < (l0_1.length : Int) := by omega
          have HY := Aside0.mk hye
          clear hye e
          cases k10 : Op.bytesLess y.toList x0.toList with
          | false =>
            go_wp2
            go_ret
            refine ⟨?_, D.out⟩
            rw [impl_nodeOK.all_miss l0_1 kk hlt (by rw [HWR.out]; rw [HY.out]; simp [k1, k5n, k10])]
            rfl
          | true =>
            go_wp2
            go_roundg (l0_1.length - (kk + 1))
            case measure => omega
            case rel =>
              refine ⟨kk + 1, by omega, by omega, by go_num, ⟨BN.out⟩, ⟨BI.out⟩, ⟨D.out⟩, ⟨fun j hj => ?_⟩⟩
              by_cases e : j = kk
              · subst e
                rw [HWR.out]
                rw [HY.out]; simp [k1, k5n, k10]
              · exact B.out j (by omega)
    · have hz : kk = l0_1.length := by omega
      subst hz
      have hltb : decide ((l0_1.length : Int) < (l0_1.length : Int)) = false := decide_eq_false (by omega)
      cases b1 with
      | false =>
        go_wp2_with (go_at_call 37; (with_reducible refine (impl_within.calls (l0_1.length : Int) 1 4 _ _ HW.out).mono ?_); rintro e w' ⟨rfl, hd⟩; have D2 := Aside0.mk (below_then D.out D.out.size hd.below); have BN2 := Aside0.mk (blk_below BN.out hd.below); have BI2 := Aside0.mk (blk_below BI.out hd.below); clear hd; have hcy0 := (blk_cell BN2.out 0).trans rfl; have hcy1 := (blk_cell BN2.out 1).trans rfl; have hcy2 := (blk_cell BN2.out 2).trans rfl; have hcy3 := (blk_cell BN2.out 3).trans rfl)
        go_ret
        (first | exact ⟨by rw [impl_nodeOK.all_hit l0_1 B.out, HT.out]; rfl, D3.out⟩ | exact ⟨by rw [impl_nodeOK.all_hit l0_1 B.out, HT.out]; simp, D3.out⟩ | exact ⟨by rw [impl_nodeOK.all_hit l0_1 B.out, HT.out]; rfl, D2.out⟩ | exact ⟨by rw [impl_nodeOK.all_hit l0_1 B.out, HT.out]; simp, D2.out⟩)
      | true =>
        cases a0_0 with
        | true => cases e1 <;> cases e2 <;> cases b2 <;> (
          go_wp2_with (first | (go_at_call 37; (with_reducible refine (impl_within.calls (l0_1.length : Int) 1 4 _ _ HW.out).mono ?_); rintro e w' ⟨rfl, hd⟩; have D2 := Aside0.mk (below_then D.out D.out.size hd.below); have BN2 := Aside0.mk (blk_below BN.out hd.below); have BI2 := Aside0.mk (blk_below BI.out hd.below); clear hd; have hcy0 := (blk_cell BN2.out 0).trans rfl; have hcy1 := (blk_cell BN2.out 1).trans rfl; have hcy2 := (blk_cell BN2.out 2).trans rfl; have hcy3 := (blk_cell BN2.out 3).trans rfl) | (go_at_call 57; (with_reducible refine (HA.out _ (Kd.C_below HR2.out D2.out)).mono ?_); rintro e w2 ⟨rfl, hd⟩; have D3 := Aside0.mk (below_then D2.out D2.out.size hd.below); clear hd))
          go_ret
          (first | exact ⟨by rw [impl_nodeOK.all_hit l0_1 B.out, HT.out]; rfl, D3.out⟩ | exact ⟨by rw [impl_nodeOK.all_hit l0_1 B.out, HT.out]; simp, D3.out⟩ | exact ⟨by rw [impl_nodeOK.all_hit l0_1 B.out, HT.out]; rfl, D2.out⟩ | exact ⟨by rw [impl_nodeOK.all_hit l0_1 B.out, HT.out]; simp, D2.out⟩))
        | false => cases e3 <;> cases e4 <;> cases b3 <;> (
          go_wp2_with (first | (go_at_call 37; (with_reducible refine (impl_within.calls (l0_1.length : Int) 1 4 _ _ HW.out).mono ?_); rintro e w' ⟨rfl, hd⟩; have D2 := Aside0.mk (below_then D.out D.out.size hd.below); have BN2 := Aside0.mk (blk_below BN.out hd.below); have BI2 := Aside0.mk (blk_below BI.out hd.below); clear hd; have hcy0 := (blk_cell BN2.out 0).trans rfl; have hcy1 := (blk_cell BN2.out 1).trans rfl; have hcy2 := (blk_cell BN2.out 2).trans rfl; have hcy3 := (blk_cell BN2.out 3).trans rfl) | (go_at_call 35; (with_reducible refine (HB.out _ _ BI2.out (Kd.C_below HR3.out D2.out)).mono ?_); rintro e w2 ⟨rfl, hd⟩; have D3 := Aside0.mk (below_then D2.out D2.out.size hd); clear hd))
          go_ret
          (first | exact ⟨by rw [impl_nodeOK.all_hit l0_1 B.out, HT.out]; rfl, D3.out⟩ | exact ⟨by rw [impl_nodeOK.all_hit l0_1 B.out, HT.out]; simp, D3.out⟩ | exact ⟨by rw [impl_nodeOK.all_hit l0_1 B.out, HT.out]; rfl, D2.out⟩ | exact ⟨by rw [impl_nodeOK.all_hit l0_1 B.out, HT.out]; simp, D2.out⟩))

end Go.Proofs.Ytcefdpjlpjgaiaa.XK
