-- Written for this claim: a contract of one function, proved by hand; the places of its template filled by a program.
import Derived.Test.YtnoalobmkecjpaaXY0
import Derived.Test.YtnoalobmkecjpaaXY2
import Derived.Test.YtnoalobmkecjpaaXYHDeleteInts
import Derived.Test.YtnoalobmkecjpaaXYHSortedInts
import Derived.Lib.SlBy
import Derived.Lib.Walk
import Derived.Shelf.Abstract
namespace Go.Proofs.Ytnoalobmkecjpaa.XY
open Go Go.RowKit Go.Proofs.YtnoalobmkecjpaaW.PrintWords Go.Proofs.YtnoalobmkecjpaaW.PrintLast Go.Proofs.YtnoalobmkecjpaaW.PrintMore
set_option linter.unusedVariables false
set_option linter.unusedSimpArgs false
open Go.Proofs.Ytnoalobmkecjpaa.Xtra
abbrev impl_SerialOrder.E := S59
theorem impl_SerialOrder.idx_l0 (x : Int) (l : List Int) (hm : l.length ≤ 9223372036854775807) : ∀ (d k i : Nat), i + d = l.length → d < k → ∃ r, slices_Index_int_int.l0 k l x (l.length : Int) (i : Int) = some r ∧ decide (r ≥ 0) = decide (x ∈ l.drop i)
  | 0, k, i, hd, hk => by
    obtain ⟨k, rfl⟩ : ∃ m, k = m + 1 := ⟨k - 1, by omega⟩
    simp only [slices_Index_int_int.l0]
    rw [if_neg (by omega), List.drop_eq_nil_of_le (by omega)]
    exact ⟨_, rfl, by simp⟩
  | d + 1, k, i, hd, hk => by
    obtain ⟨k, rfl⟩ : ∃ m, k = m + 1 := ⟨k - 1, by omega⟩
    have hlt : i < l.length := by omega
    obtain ⟨r, ih, hr⟩ := impl_SerialOrder.idx_l0 x l hm d k (i + 1) (by omega) (by omega)
    have hw : wrap64 ((i : Int) + 1) = ((i + 1 : Nat) : Int) := by unfold wrap64; omega
    have hrd : rd l (i : Int) = l[i] := by simp [rd, List.getD_eq_getElem?_getD, List.getElem?_eq_getElem hlt]
    simp only [slices_Index_int_int.l0]
    rw [if_pos (by omega), if_pos (by omega), if_pos (by omega), List.drop_eq_getElem_cons hlt, hw, ih, hrd]
    by_cases e : x = l[i]
    · rw [if_pos e]
      exact ⟨_, rfl, by rw [decide_eq_true (by omega), decide_eq_true (by rw [e]; exact List.mem_cons_self)]⟩
    · rw [if_neg e]
      exact ⟨r, rfl, by rw [hr]; exact decide_eq_decide.mpr (by rw [List.mem_cons]; exact (or_iff_right e).symm)⟩
theorem impl_SerialOrder.has_some (l : List Int) (x : Int) (hm : l.length ≤ 9223372036854775807) : slices_Contains_int_int.f (l.length + 1) l x = some (decide (x ∈ l)) := by
  obtain ⟨r, h, hr⟩ := impl_SerialOrder.idx_l0 x l hm l.length (l.length + 1) 0 (by omega) (by omega)
  unfold slices_Contains_int_int.f slices_Index_int_int.f
  rw [show ((0 : Nat) : Int) = 0 from rfl] at h
  rw [h, Option.bind_some, hr]
  rfl
/-- An edge that leads to a node from one that is left; a node to which none leads. -/
def impl_SerialOrder.q2 (n : Int) (left : List Int) (e : impl_SerialOrder.E) : Bool := (e.f1 == n) && decide (e.f0 ∈ left)
def impl_SerialOrder.q1 (es : List impl_SerialOrder.E) (left : List Int) (n : Int) : Bool := !es.any (impl_SerialOrder.q2 n left)
def impl_SerialOrder.first (es : List impl_SerialOrder.E) (left : List Int) : Int := Lib.idxBy (fun _ y => impl_SerialOrder.q1 es left y) left 0
def impl_SerialOrder.go (es : List impl_SerialOrder.E) : Nat → List Int → List Int → List Int × Int
  | _, [], out => (out, 0)
  | 0, _ :: _, _ => ([], 15)
  | d + 1, x :: xs, out => if impl_SerialOrder.first es (x :: xs) < 0 then ([], 15) else impl_SerialOrder.go es d ((x :: xs).eraseIdx (impl_SerialOrder.first es (x :: xs)).toNat) (out ++ [rd (x :: xs) (impl_SerialOrder.first es (x :: xs))])
theorem impl_SerialOrder.go_nil (es : List impl_SerialOrder.E) (d : Nat) (out : List Int) : impl_SerialOrder.go es d [] out = (out, 0) := by cases d <;> rfl
theorem impl_SerialOrder.go_step (es : List impl_SerialOrder.E) (d : Nat) (left out : List Int) (h : 0 < left.length) : impl_SerialOrder.go es (d + 1) left out = if impl_SerialOrder.first es left < 0 then ([], 15) else impl_SerialOrder.go es d (left.eraseIdx (impl_SerialOrder.first es left).toNat) (out ++ [rd left (impl_SerialOrder.first es left)]) := by
  cases left with
  | nil => simp at h
  | cons x xs => rfl
theorem impl_SerialOrder.idx_cases (p : Int → Bool) (x : Int) : ∀ (l : List Int) (i : Nat), Lib.idxByFrom (fun _ y => p y) x l i = -1 ∨ ∃ k : Nat, k < l.length ∧ Lib.idxByFrom (fun _ y => p y) x l i = ((i + k : Nat) : Int)
  | [], _ => .inl rfl
  | z :: zs, i => by
    by_cases h : p z = true
    · exact .inr ⟨0, by simp, by simp [Lib.idxByFrom, h]⟩
    · have h' : p z = false := by simpa using h
      rcases impl_SerialOrder.idx_cases p x zs (i + 1) with e | ⟨k, hk, e⟩
      · exact .inl (by simp only [Lib.idxByFrom, h', Bool.false_eq_true, if_false]; exact e)
      · refine .inr ⟨k + 1, by simpa using hk, ?_⟩
        simp only [Lib.idxByFrom, h', Bool.false_eq_true, if_false]
        rw [e]
        congr 1
        omega
theorem impl_SerialOrder.first_cases (es : List impl_SerialOrder.E) (left : List Int) : impl_SerialOrder.first es left = -1 ∨ ∃ k : Nat, k < left.length ∧ impl_SerialOrder.first es left = (k : Int) := by
  have := impl_SerialOrder.idx_cases (impl_SerialOrder.q1 es left) 0 left 0
  simpa [impl_SerialOrder.first, Lib.idxBy] using this
def impl_SerialOrder.f (k : Nat) (l0 : List Int) (l1 : List impl_SerialOrder.E) : Option (List Int × Int) :=
  if (l0.length : Int) > 4096 ∨ (l1.length : Int) > 4096 then some ([], 2) else
  if (l0.length : Int) > 20 ∨ (l1.length : Int) > 400 then some ([], 6) else
  (impl_isTwice.f k l0).bind fun t => if t = true then some ([], 9) else some (impl_SerialOrder.go l1 l0.length (l0.mergeSort fun x y => decide (x ≤ y)) [])
theorem impl_SerialOrder.mono : ∀ l0 l1 k, LeO (impl_SerialOrder.f k l0 l1) (impl_SerialOrder.f (k + 1) l0 l1) := by
  intro l0 l1 k
  unfold impl_SerialOrder.f
  exact LeO.ite (LeO.refl _) (LeO.ite (LeO.refl _) (LeO.bind (impl_isTwice.mono l0 k) (fun _ => LeO.refl _)))
set_option maxHeartbeats 2000000 in
theorem impl_SerialOrder.c2 (gn gl : Nat) (n : Int) (A : Option Addr) (c : Nat) (left : List Int) (x : impl_SerialOrder.E) (W : World) (hn : W.heap[gn]? = some (.cells #[.int .i64 n] 3 (0, 0))) (hl : W.heap[gl]? = some (.cells #[.slice A left.length c] 51 (0, 0))) (hr : Kd.C (Kd.int .i64) W A left.length left) (hc : left.length ≤ c) :
    Calls Try.prog 75 #[.agg #[.int .i64 x.f0, .int .i64 x.f1], .pointer (some ⟨gn, 0, none⟩), .pointer (some ⟨gl, 0, none⟩)] W fun e W' => e = .returned (.bool (impl_SerialOrder.q2 n left x)) ∧ Below W.heap.size W W' := by
  have hu := Try.underlying59
  have hm : left.length ≤ 9223372036854775807 := hr.2.1
  have B0 := Aside0.mk (below_alloc (Below.refl W.heap.size W) (.cells #[.int .i64 x.f0, .int .i64 x.f1] 59 (0, 0)))
  have hz1 : (W.alloc (.cells #[.int .i64 x.f0, .int .i64 x.f1] 59 (0, 0))).cell? ⟨gn, 0, none⟩ = some (.int .i64 n) := pw_cell_below (below_alloc (Below.refl W.heap.size W) _) ((blk_cell hn 0).trans rfl)
  have hz2 : (W.alloc (.cells #[.int .i64 x.f0, .int .i64 x.f1] 59 (0, 0))).cell? ⟨gl, 0, none⟩ = some (.slice A left.length c) := pw_cell_below (below_alloc (Below.refl W.heap.size W) _) ((blk_cell hl 0).trans rfl)
  have HR := Aside0.mk (Kd.C_below hr (below_alloc (Below.refl W.heap.size W) (.cells #[.int .i64 x.f0, .int .i64 x.f1] 59 (0, 0))))
  have HH := Aside0.mk (impl_SerialOrder.has_some left x.f0 hm)
  clear hn hl hr
  unfold impl_SerialOrder.q2
  generalize decide (x.f0 ∈ left) = b at HH ⊢
  cases hq : (x.f1 == n) <;> (
    go_enter Try.func75, Try.ntmps75
    go_wp2_with (go_at_call 56; (with_reducible refine (slices_Contains_int_int.calls _ A c left x.f0 b _ HR.out hc HH.out).mono ?_); rintro e w' ⟨rfl, hd⟩; have D := Aside0.mk (below_then B0.out B0.out.size hd.below); clear hd)
    go_ret
    first
      | exact ⟨rfl, D.out⟩
      | exact ⟨rfl, B0.out⟩)

set_option maxHeartbeats 2000000 in
/-- slices.IndexFunc at this element type, over a predicate that a function value gives. -/
theorem impl_SerialOrdera_idx (p : S59 → Bool) (g : Nat) (lb : Array Value) (A : Option Addr) (c : Nat) (l : List S59) (w : World)
    (eg : ∀ args w, (callFunc g args).run Try.prog w = .ok (.enter g args) w)
    (hp : ∀ (W : World) (x : S59), Below w.heap.size w W → Calls Try.prog g (#[.agg #[.int .i64 x.f0, .int .i64 x.f1]] ++ lb) W fun e W' => e = .returned (.bool (p x)) ∧ Below W.heap.size W W')
    (hr : Kd.C k59 w A l.length l) :
    Calls Try.prog 104 #[.slice A l.length c, .func (.func g) #[] lb] w fun e w' => e = .returned (.int .i64 (Lib.idxBy (fun _ y => p y) l z59)) ∧ Below w.heap.size w w' := by
  have hm : l.length ≤ 9223372036854775807 := hr.2.1
  by_cases hl : l = []
  · subst hl
    clear hp
    go_enter Try.func104, Try.ntmps104
    go_wp2
    go_loopg [5, 8] 0 (fun _ _ s8 wr => s8 = .int .i64 0 ∧ wr = w)
    case atStart => exact ⟨rfl, rfl⟩
    case round =>
      obtain ⟨rfl, rfl⟩ := hrel
      go_wp2
      go_ret
      exact ⟨rfl, Below.refl _ _⟩
  · have hpos : 0 < l.length := List.length_pos_iff.mpr hl
    obtain ⟨ad, rfl, hx0⟩ := hr.2.2 hpos
    clear hx0 hl
    have HR := Aside0.mk hr
    clear hr
    have HP := Aside0.mk hp
    clear hp
    go_enter Try.func104, Try.ntmps104
    go_wp2
    go_loopg [5, 8] l.length (fun gg _ s8 wr => ∃ kk : Nat, kk ≤ l.length ∧ l.length - kk ≤ gg ∧ s8 = .int .i64 kk ∧ Aside0 (Below w.heap.size w wr) ∧ Aside0 (∀ j, j < kk → p (l.getD j z59) = false))
    case atStart => exact ⟨0, Nat.zero_le _, by omega, rfl, ⟨Below.refl _ _⟩, ⟨fun j hj => absurd hj (Nat.not_lt_zero _)⟩⟩
    case round =>
      obtain ⟨kk, hkk, hg, rfl, D, B⟩ := hrel
      by_cases hlt : kk < l.length
      · have hltz : (kk : Int) < (l.length : Int) := by omega
        obtain ⟨ad2, e2, hx0, hx1⟩ := at_T59 (Kd.C_below HR.out D.out) (kk : Int) (by omega) hltz
        obtain rfl := Option.some.inj e2
        clear e2
        rw [Int.toNat_natCast] at hx0 hx1
        generalize hy : rd_T59 l (kk : Int) = y at hx0 hx1
        have Y : Aside0 (l.getD kk z59 = y) := ⟨by rw [← hy]; simp [rd_T59]⟩
        clear hy
        have hcall : ∀ W, Below w.heap.size w W → Calls Try.prog g (#[.agg #[.int .i64 y.f0, .int .i64 y.f1]] ++ lb) W fun e W' => e = .returned (.bool (p y)) ∧ Below W.heap.size W W' := fun W => HP.out W y
        have HC := Aside0.mk hcall
        clear hcall
        cases hq : p y with
        | true =>
          rw [hq] at HC
          have HQ := Aside0.mk hq
          clear hq
          go_wp2_with (go_at_fn g; refine (HC.out _ D.out).mono ?_; rintro e w' ⟨rfl, hb⟩)
          go_ret
          refine ⟨?_, below_then D.out D.out.size hb⟩
          rw [idx_hit p l z59 kk hlt (by rw [Y.out]; exact HQ.out) B.out]
          rfl
        | false =>
          rw [hq] at HC
          have HQ := Aside0.mk hq
          clear hq
          go_wp2_with (go_at_fn g; refine (HC.out _ D.out).mono ?_; rintro e w' ⟨rfl, hb⟩)
          go_roundg (l.length - (kk + 1))
          case measure => omega
          case rel =>
            refine ⟨kk + 1, by omega, by omega, by go_num, ⟨below_then D.out D.out.size hb⟩, ⟨fun j hj => ?_⟩⟩
            by_cases e : j = kk
            · subst e
              rw [Y.out]
              exact HQ.out
            · exact B.out j (by omega)
      · have hltz : ¬ (kk : Int) < (l.length : Int) := by omega
        have hz : kk = l.length := by omega
        subst hz
        go_wp2
        go_ret
        refine ⟨?_, D.out⟩
        rw [idx_miss p l z59 B.out]
        rfl

set_option maxHeartbeats 2000000 in
/-- slices.ContainsFunc at this element type. -/
theorem impl_SerialOrdera_has (p : S59 → Bool) (g : Nat) (lb : Array Value) (A : Option Addr) (c : Nat) (l : List S59) (w : World)
    (eg : ∀ args w, (callFunc g args).run Try.prog w = .ok (.enter g args) w)
    (hp : ∀ (W : World) (x : S59), Below w.heap.size w W → Calls Try.prog g (#[.agg #[.int .i64 x.f0, .int .i64 x.f1]] ++ lb) W fun e W' => e = .returned (.bool (p x)) ∧ Below W.heap.size W W')
    (hr : Kd.C k59 w A l.length l) :
    Calls Try.prog 74 #[.slice A l.length c, .func (.func g) #[] lb] w fun e w' => e = .returned (.bool (l.any p)) ∧ Below w.heap.size w w' := by
  rw [show l.any p = decide (0 ≤ Lib.idxBy (fun _ y => p y) l z59) from (Lib.idxBy_nonneg_iff (fun _ y => p y) l z59).symm]
  have HI : Calls Try.prog 104 #[.slice A l.length c, .func (.func g) #[] lb] w fun e w' => e = .returned (.int .i64 (Lib.idxBy (fun _ y => p y) l z59)) ∧ Below w.heap.size w w' := impl_SerialOrdera_idx p g lb A c l w eg hp hr
  clear hp hr
  generalize Lib.idxBy (fun _ y => p y) l z59 = n at HI ⊢
  have HH := Aside0.mk HI
  clear HI
  go_enter Try.func74, Try.ntmps74
  go_wp2_with (go_at_call 104; refine (HH.out).mono ?_; rintro e w' ⟨rfl, hb⟩)
  go_ret
  exact ⟨rfl, hb⟩


set_option maxHeartbeats 2000000 in
/-- slices.IndexFunc at this element type, over a predicate that a function value gives. -/
theorem impl_SerialOrderb_idx (p : Int → Bool) (g : Nat) (lb : Array Value) (A : Option Addr) (c : Nat) (l : List Int) (w : World)
    (eg : ∀ args w, (callFunc g args).run Try.prog w = .ok (.enter g args) w)
    (hp : ∀ (W : World) (x : Int), Below w.heap.size w W → Calls Try.prog g (#[.int .i64 x] ++ lb) W fun e W' => e = .returned (.bool (p x)) ∧ Below W.heap.size W W')
    (hr : Kd.C (Kd.int .i64) w A l.length l) :
    Calls Try.prog 72 #[.slice A l.length c, .func (.func g) #[] lb] w fun e w' => e = .returned (.int .i64 (Lib.idxBy (fun _ y => p y) l 0)) ∧ Below w.heap.size w w' := by
  have hm : l.length ≤ 9223372036854775807 := hr.2.1
  by_cases hl : l = []
  · subst hl
    clear hp
    go_enter Try.func72, Try.ntmps72
    go_wp2
    go_loopg [5, 8] 0 (fun _ _ s8 wr => s8 = .int .i64 0 ∧ wr = w)
    case atStart => exact ⟨rfl, rfl⟩
    case round =>
      obtain ⟨rfl, rfl⟩ := hrel
      go_wp2
      go_ret
      exact ⟨rfl, Below.refl _ _⟩
  · have hpos : 0 < l.length := List.length_pos_iff.mpr hl
    obtain ⟨ad, rfl, hx0⟩ := hr.2.2 hpos
    clear hx0 hl
    have HR := Aside0.mk hr
    clear hr
    have HP := Aside0.mk hp
    clear hp
    go_enter Try.func72, Try.ntmps72
    go_wp2
    go_loopg [5, 8] l.length (fun gg _ s8 wr => ∃ kk : Nat, kk ≤ l.length ∧ l.length - kk ≤ gg ∧ s8 = .int .i64 kk ∧ Aside0 (Below w.heap.size w wr) ∧ Aside0 (∀ j, j < kk → p (l.getD j 0) = false))
    case atStart => exact ⟨0, Nat.zero_le _, by omega, rfl, ⟨Below.refl _ _⟩, ⟨fun j hj => absurd hj (Nat.not_lt_zero _)⟩⟩
    case round =>
      obtain ⟨kk, hkk, hg, rfl, D, B⟩ := hrel
      by_cases hlt : kk < l.length
      · have hltz : (kk : Int) < (l.length : Int) := by omega
        obtain ⟨ad2, e2, hx0⟩ := Kd.at_int (Kd.C_below HR.out D.out) (kk : Int) (by omega) hltz
        obtain rfl := Option.some.inj e2
        clear e2
        rw [Int.toNat_natCast] at hx0
        generalize hy : rd l (kk : Int) = y at hx0
        have Y : Aside0 (l.getD kk 0 = y) := ⟨by rw [← hy]; simp [rd]⟩
        clear hy
        have hcall : ∀ W, Below w.heap.size w W → Calls Try.prog g (#[.int .i64 y] ++ lb) W fun e W' => e = .returned (.bool (p y)) ∧ Below W.heap.size W W' := fun W => HP.out W y
        have HC := Aside0.mk hcall
        clear hcall
        cases hq : p y with
        | true =>
          rw [hq] at HC
          have HQ := Aside0.mk hq
          clear hq
          go_wp2_with (go_at_fn g; refine (HC.out _ D.out).mono ?_; rintro e w' ⟨rfl, hb⟩)
          go_ret
          refine ⟨?_, below_then D.out D.out.size hb⟩
          rw [idx_hit p l 0 kk hlt (by rw [Y.out]; exact HQ.out) B.out]
          rfl
        | false =>
          rw [hq] at HC
          have HQ := Aside0.mk hq
          clear hq
          go_wp2_with (go_at_fn g; refine (HC.out _ D.out).mono ?_; rintro e w' ⟨rfl, hb⟩)
          go_roundg (l.length - (kk + 1))
          case measure => omega
          case rel =>
            refine ⟨kk + 1, by omega, by omega, by go_num, ⟨below_then D.out D.out.size hb⟩, ⟨fun j hj => ?_⟩⟩
            by_cases e : j = kk
            · subst e
              rw [Y.out]
              exact HQ.out
            · exact B.out j (by omega)
      · have hltz : ¬ (kk : Int) < (l.length : Int) := by omega
        have hz : kk = l.length := by omega
        subst hz
        go_wp2
        go_ret
        refine ⟨?_, D.out⟩
        rw [idx_miss p l 0 B.out]
        rfl


set_option maxHeartbeats 2000000 in
theorem impl_SerialOrder.c1 (ge gl : Nat) (A1 : Option Addr) (c1 : Nat) (es : List impl_SerialOrder.E) (n : Int) (A : Option Addr) (c : Nat) (left : List Int) (W : World) (he : W.heap[ge]? = some (.cells #[.slice A1 es.length c1] 32 (0, 0))) (hl : W.heap[gl]? = some (.cells #[.slice A left.length c] 51 (0, 0))) (hr : Kd.C (Kd.int .i64) W A left.length left) (hc : left.length ≤ c) (hr1 : Kd.C k59 W A1 es.length es) :
    Calls Try.prog 73 #[.int .i64 n, .pointer (some ⟨ge, 0, none⟩), .pointer (some ⟨gl, 0, none⟩)] W fun e W' => e = .returned (.bool (impl_SerialOrder.q1 es left n)) ∧ Below W.heap.size W W' := by
  have hw := below_alloc (Below.refl W.heap.size W) (.cells #[.int .i64 n] 3 (0, 0))
  have B0 := Aside0.mk hw
  have hz1 : (W.alloc (.cells #[.int .i64 n] 3 (0, 0))).cell? ⟨ge, 0, none⟩ = some (.slice A1 es.length c1) := pw_cell_below hw ((blk_cell he 0).trans rfl)
  have HC : Aside0 (Calls Try.prog 74 #[.slice A1 es.length c1, .func (.func 75) #[] #[.pointer (some ⟨W.heap.size, 0, none⟩), .pointer (some ⟨gl, 0, none⟩)]] (W.alloc (.cells #[.int .i64 n] 3 (0, 0))) fun e W' => e = .returned (.bool (es.any (impl_SerialOrder.q2 n left))) ∧ Below (W.alloc (.cells #[.int .i64 n] 3 (0, 0))).heap.size (W.alloc (.cells #[.int .i64 n] 3 (0, 0))) W') :=
    ⟨impl_SerialOrdera_has (impl_SerialOrder.q2 n left) 75 #[.pointer (some ⟨W.heap.size, 0, none⟩), .pointer (some ⟨gl, 0, none⟩)] A1 c1 es _ (enters_of Try.func75 (by kernel_rfl) rfl) (fun W' x hW => by simpa using impl_SerialOrder.c2 W.heap.size gl n A c left x W' (blk_below (blk_new W _) hW) (blk_below (blk_below hl hw) hW) (Kd.C_below (Kd.C_below hr hw) hW) hc) (Kd.C_below hr1 hw)⟩
  clear he hl hr hr1 hw
  unfold impl_SerialOrder.q1
  generalize es.any (impl_SerialOrder.q2 n left) = b at HC ⊢
  go_enter Try.func73, Try.ntmps73
  go_wp2_with (go_at_call 74; (with_reducible refine (HC.out).mono ?_); rintro e w' ⟨rfl, hd⟩; have D := Aside0.mk (below_then B0.out B0.out.size hd); clear hd)
  go_ret
  exact ⟨rfl, D.out⟩
theorem impl_SerialOrder.values (A : Option Addr) (n c : Nat) (w : World) :
    Calls Try.prog 71 #[.slice A n c] w fun e w' => e = .returned (.func (.func 103) #[] #[.pointer (some ⟨w.heap.size, 0, none⟩)]) ∧ w.alloc (.cells #[.slice A n c] 51 (0, 0)) = w' := by
  go_enter Try.func71, Try.ntmps71
  go_wp2
  go_ret
  exact ⟨rfl, rfl⟩
theorem impl_SerialOrder.info3 : (Try.prog.info? 3).map (fun i => (i.zero, i.size, i.bytes)) = some (some (.int .i64 0), 1, 8) := by kernel_rfl
theorem impl_SerialOrder.lit0 (W : World) (base : Nat) (hb : base ≤ W.heap.size) : Kd.R (Kd.int .i64) 3 (W.alloc (.cells #[] 3)) base (fun k => W.heap.size ≤ k) (.slice (some ⟨W.heap.size, 0, none⟩) 0 0) [] := by
  refine ⟨fun k hk => ?_, [], ?_, Reps.none _ _⟩
  · have : W.heap.size = k := by simpa [Value.ownBlock] using hk
    omega
  · exact World.ownsRow_lit (base := base) (e := 3) (size := 1) W #[] 0 hb (by unfold maxLen; omega) (by simp)
set_option maxHeartbeats 16000000 in
set_option maxRecDepth 100000 in
theorem impl_SerialOrder.calls (k : Nat) (A0 : Option Addr) (c0 : Nat) (l0 : List Int) (A1 : Option Addr) (c1 : Nat) (l1 : List impl_SerialOrder.E) (r1 : List Int) (r2 : Int) (w : World) (hr0 : Kd.C (Kd.int .i64) w A0 l0.length l0) (hc0 : l0.length ≤ c0) (hr1 : Kd.C k59 w A1 l1.length l1) (hc1 : l1.length ≤ c1) (h : impl_SerialOrder.f k l0 l1 = some (r1, r2)) :
    Calls Try.prog 32 #[.slice A0 l0.length c0, .slice A1 l1.length c1] w fun e w' => ∃ v0_ : Value, e = .returned (.tuple #[v0_, .int .i64 r2]) ∧ Kd.R (Kd.int .i64) 3 w' w.heap.size (fun _ => True) v0_ r1 ∧ Below w.heap.size w w' := by
  have hm0 : l0.length ≤ 9223372036854775807 := hr0.2.1
  have hm1 : l1.length ≤ 9223372036854775807 := hr1.2.1
  have HR0 := Aside0.mk hr0
  have HR1 := Aside0.mk hr1
  have HC0 := Aside0.mk hc0
  clear hr0 hr1 hc0 hc1
  have B0 := Aside0.mk (below_alloc (Below.refl w.heap.size w) (.cells #[.slice A1 l1.length c1] 32 (0, 0)))
  have BK0 := Aside0.mk (blk_new w (.cells #[.slice A1 l1.length c1] 32 (0, 0)))
  unfold impl_SerialOrder.f at h
  by_cases p1 : (l0.length : Int) > 4096
  · rw [if_pos (.inl p1)] at h
    obtain ⟨rfl, rfl⟩ := Prod.mk.inj (Option.some.inj h)
    have p1b : decide ((4096 : Int) < (l0.length : Int)) = true := decide_eq_true p1
    clear h p1
    go_enter Try.func32, Try.ntmps32
    go_wp2
    go_ret2
    exact ⟨_, rfl, Kd.R_nil _ _ _ _ _, B0.out⟩
  by_cases p2 : (l1.length : Int) > 4096
  · rw [if_pos (.inr p2)] at h
    obtain ⟨rfl, rfl⟩ := Prod.mk.inj (Option.some.inj h)
    have p1b : decide ((4096 : Int) < (l0.length : Int)) = false := decide_eq_false p1
    have p2b : decide ((4096 : Int) < (l1.length : Int)) = true := decide_eq_true p2
    clear h p1 p2
    go_enter Try.func32, Try.ntmps32
    go_wp2
    go_ret2
    exact ⟨_, rfl, Kd.R_nil _ _ _ _ _, B0.out⟩
  rw [if_neg (by omega)] at h
  have p1b : decide ((4096 : Int) < (l0.length : Int)) = false := decide_eq_false p1
  have p2b : decide ((4096 : Int) < (l1.length : Int)) = false := decide_eq_false p2
  clear p1 p2
  by_cases p3 : (l0.length : Int) > 20
  · rw [if_pos (.inl p3)] at h
    obtain ⟨rfl, rfl⟩ := Prod.mk.inj (Option.some.inj h)
    have p3b : decide ((20 : Int) < (l0.length : Int)) = true := decide_eq_true p3
    clear h p3
    go_enter Try.func32, Try.ntmps32
    go_wp2
    go_ret2
    exact ⟨_, rfl, Kd.R_nil _ _ _ _ _, B0.out⟩
  by_cases p4 : (l1.length : Int) > 400
  · rw [if_pos (.inr p4)] at h
    obtain ⟨rfl, rfl⟩ := Prod.mk.inj (Option.some.inj h)
    have p3b : decide ((20 : Int) < (l0.length : Int)) = false := decide_eq_false p3
    have p4b : decide ((400 : Int) < (l1.length : Int)) = true := decide_eq_true p4
    clear h p3 p4
    go_enter Try.func32, Try.ntmps32
    go_wp2
    go_ret2
    exact ⟨_, rfl, Kd.R_nil _ _ _ _ _, B0.out⟩
  rw [if_neg (by omega)] at h
  have hl20 : l0.length ≤ 20 := by omega
  have p3b : decide ((20 : Int) < (l0.length : Int)) = false := decide_eq_false p3
  have p4b : decide ((400 : Int) < (l1.length : Int)) = false := decide_eq_false p4
  clear p3 p4
  obtain ⟨t, ht, h⟩ := Option.bind_eq_some_iff.mp h
  have HT := Aside0.mk ht
  clear ht
  cases t with
  | true =>
    rw [if_pos rfl] at h
    obtain ⟨rfl, rfl⟩ := Prod.mk.inj (Option.some.inj h)
    clear h
    go_enter Try.func32, Try.ntmps32
    go_wp2_with (go_at_call 69; (with_reducible refine (impl_isTwice.calls k A0 c0 l0 true _ (Kd.C_below HR0.out B0.out) HC0.out HT.out).mono ?_); rintro e w' ⟨rfl, ⟨nd, rfl⟩⟩)
    go_ret2
    exact ⟨_, rfl, Kd.R_nil _ _ _ _ _, pw_below_drewN B0.out _⟩
  | false =>
  rw [if_neg (by simp)] at h
  have hgo := Option.some.inj h
  clear h
  obtain ⟨so, hso⟩ : ∃ so, so = l0.mergeSort fun x y => decide (x ≤ y) := ⟨_, rfl⟩
  have hsol : so.length = l0.length := by rw [hso]; exact List.length_mergeSort l0
  rw [← hso, ← hsol] at hgo
  have HSF : Aside0 (slices_Sorted_int.f l0 = some so) := ⟨by unfold slices_Sorted_int.f; rw [if_pos (by omega), hso]⟩
  have hs20 : so.length ≤ 20 := by omega
  clear hso hsol hl20
  have HGO := Aside0.mk hgo
  clear hgo
  obtain ⟨ge, hge⟩ : ∃ ge, ge = w.heap.size := ⟨_, rfl⟩
  have GEW := Aside0.mk hge
  clear hge
  go_enter Try.func32, Try.ntmps32
  go_upto_region 7 with (go_at_call 69; (with_reducible refine (impl_isTwice.calls k A0 c0 l0 false _ (Kd.C_below HR0.out B0.out) HC0.out HT.out).mono ?_); rintro e w' ⟨rfl, ⟨nd, rfl⟩⟩)
  rw [← GEW.out] at BK0 ⊢
  have hbx : ((w.alloc (.cells #[.slice A1 l1.length c1] 32 (0, 0))).drewN nd).heap[ge]? = some (.cells #[.slice A1 l1.length c1] 32 (0, 0)) := BK0.out
  have hbl : Below w.heap.size w ((w.alloc (.cells #[.slice A1 l1.length c1] 32 (0, 0))).drewN nd) := pw_below_drewN B0.out nd
  generalize ((w.alloc (.cells #[.slice A1 l1.length c1] 32 (0, 0))).drewN nd) = W1 at hbx hbl ⊢
  have BK1 := Aside0.mk hbx
  have B1 := Aside0.mk hbl
  clear hbx hbl BK0 B0
  have hva := impl_SerialOrder.values A0 l0.length c0 W1
  obtain ⟨W2, hW2⟩ : ∃ W2, W2 = W1.alloc (.cells #[.slice A0 l0.length c0] 51 (0, 0)) := ⟨_, rfl⟩
  obtain ⟨gv, hgv⟩ : ∃ gv, gv = W1.heap.size := ⟨_, rfl⟩
  rw [← hW2, ← hgv] at hva
  have HVA := Aside0.mk hva
  have B2 : Aside0 (Below w.heap.size w W2) := ⟨by rw [hW2]; exact below_alloc B1.out _⟩
  have BK2 : Aside0 (W2.heap[ge]? = some (.cells #[.slice A1 l1.length c1] 32 (0, 0))) := ⟨by rw [hW2]; exact blk_alloc BK1.out _⟩
  have BV2 : Aside0 (W2.cell? ⟨gv, 0, none⟩ = some (.slice A0 l0.length c0)) := ⟨by rw [hW2, hgv]; exact (blk_cell (blk_new W1 _) 0).trans rfl⟩
  clear hva hW2 hgv
  have HSO := Aside0.mk (slices_Sorted_int.calls gv A0 c0 l0 so W2 (Kd.C_below HR0.out B2.out) BV2.out HSF.out)
  clear HR0 HSF
  go_upto_region 9 with (first
    | (go_at_call 71; (with_reducible refine (HVA.out).mono ?_); rintro e w2 ⟨rfl, rfl⟩)
    | (go_at_call 70; (with_reducible refine (HSO.out).mono ?_); rintro e W3 ⟨vL, rfl, hL, hb⟩; obtain ⟨AL, cL, rfl⟩ := Kd.R_slice hL; have HL3 := Aside0.mk hL; have B3 := Aside0.mk (below_then B2.out B2.out.size hb); have BK3 := Aside0.mk (blk_below BK2.out hb); have SZ3 := Aside0.mk hb.size; clear hL hb))
  have HL4 : Aside0 (Kd.R (Kd.int .i64) 3 ((W3.alloc (.cells #[.slice AL so.length cL] 51)).alloc (.cells #[] 3)) w.heap.size (fun k => W2.heap.size ≤ k ∧ k < W3.heap.size) (.slice AL so.length cL) so) := ⟨Kd.R_alloc (Kd.R_alloc (Kd.R_lower (Kd.R_mono (Kd.R_bound HL3.out) (fun k hk => ⟨hk.2.1, hk.2.2.1⟩)) B2.out.size) _) _⟩
  have HO4 : Aside0 (Kd.R (Kd.int .i64) 3 ((W3.alloc (.cells #[.slice AL so.length cL] 51)).alloc (.cells #[] 3)) w.heap.size (fun k => W3.heap.size < k) (.slice (some ⟨W3.heap.size + 1, 0, none⟩) 0 0) []) := ⟨by
    have h := impl_SerialOrder.lit0 (W3.alloc (.cells #[.slice AL so.length cL] 51)) w.heap.size (by have := B3.out.size; simp; omega)
    rw [World.size_alloc] at h
    exact Kd.R_mono h (fun k hk => hk)⟩
  have BL4 : Aside0 (((W3.alloc (.cells #[.slice AL so.length cL] 51)).alloc (.cells #[] 3)).heap[W3.heap.size]? = some (.cells #[.slice AL so.length cL] 51 (0, 0))) := ⟨blk_alloc (blk_new W3 _) _⟩
  have BE4 : Aside0 (((W3.alloc (.cells #[.slice AL so.length cL] 51)).alloc (.cells #[] 3)).heap[ge]? = some (.cells #[.slice A1 l1.length c1] 32 (0, 0))) := ⟨blk_alloc (blk_alloc BK3.out _) _⟩
  have D4 : Aside0 (Below w.heap.size w ((W3.alloc (.cells #[.slice AL so.length cL] 51)).alloc (.cells #[] 3))) := ⟨below_alloc (below_alloc B3.out _) _⟩
  have GE : Aside0 (ge < W2.heap.size) := ⟨blk_lt BK2.out⟩
  have GW : Aside0 (w.heap.size ≤ W2.heap.size ∧ W2.heap.size ≤ W3.heap.size) := ⟨⟨B2.out.size, SZ3.out⟩⟩
  generalize ((W3.alloc (.cells #[.slice AL so.length cL] 51)).alloc (.cells #[] 3)) = W4 at HL4 HO4 BL4 BE4 D4 ⊢
  generalize hb1 : W3.heap.size + 1 = g1 at HO4 ⊢
  clear hb1
  generalize W3.heap.size = gl at HL4 HO4 BL4 GW ⊢
  generalize W2.heap.size = b0 at HL4 GE GW
  clear HVA HSO HL3 B3 BK3 SZ3 B2 BK2 BV2 B1 BK1 GEW HC0 HT
  have HIX : Aside0 (∀ (W : World) (left : List Int) (A : Option Addr) (c : Nat), Below w.heap.size w W → W.heap[ge]? = some (.cells #[.slice A1 l1.length c1] 32 (0, 0)) → W.heap[gl]? = some (.cells #[.slice A left.length c] 51 (0, 0)) → Kd.C (Kd.int .i64) W A left.length left → left.length ≤ c → Calls Try.prog 72 #[.slice A left.length c, .func (.func 73) #[] #[.pointer (some ⟨ge, 0, none⟩), .pointer (some ⟨gl, 0, none⟩)]] W fun e w' => e = .returned (.int .i64 (impl_SerialOrder.first l1 left)) ∧ Below W.heap.size W w') := ⟨fun W left A c hB he hl hr hc =>
    impl_SerialOrderb_idx (impl_SerialOrder.q1 l1 left) 73 #[.pointer (some ⟨ge, 0, none⟩), .pointer (some ⟨gl, 0, none⟩)] A c left W (enters_of Try.func73 (by kernel_rfl) rfl) (fun W' x hW => by simpa using impl_SerialOrder.c1 ge gl A1 c1 l1 x A c left W' (blk_below he hW) (blk_below hl hW) (Kd.C_below hr hW) hc (Kd.C_below HR1.out (below_then hB hB.size hW))) hr⟩
  go_loopg [7] 20 (fun gg s7 wr => ∃ (left out : List Int) (A : Option Addr) (c : Nat) (vO : Value), vO = s7 ∧ left.length ≤ gg ∧ Aside0 (left.length + out.length ≤ 20) ∧ Aside0 (impl_SerialOrder.go l1 left.length left out = (r1, r2)) ∧ Aside0 (Kd.R (Kd.int .i64) 3 wr w.heap.size (fun k => b0 ≤ k ∧ k < gl) (.slice A left.length c) left) ∧ Aside0 (Kd.R (Kd.int .i64) 3 wr w.heap.size (fun k => gl < k) vO out) ∧ Aside0 (wr.heap[gl]? = some (.cells #[.slice A left.length c] 51 (0, 0))) ∧ Aside0 (wr.heap[ge]? = some (.cells #[.slice A1 l1.length c1] 32 (0, 0))) ∧ Aside0 (Below w.heap.size w wr))
  case atStart => exact ⟨so, [], AL, cL, _, rfl, hs20, ⟨by simpa using hs20⟩, HGO, HL4, HO4, BL4, BE4, D4⟩
  case round =>
    clear HGO HL4 HO4 BL4 BE4 D4
    obtain ⟨left, out, A, c, vO, rfl, hgg, HN, HG, HL, HO, BL, BE, D⟩ := hrel
    by_cases hz : left.length = 0
    · obtain rfl : left = [] := List.length_eq_zero_iff.1 hz
      have hg := HG.out
      rw [impl_SerialOrder.go_nil] at hg
      obtain ⟨rfl, rfl⟩ := Prod.mk.inj hg
      have hcl : wr.cell? ⟨gl, 0, none⟩ = some (.slice A 0 c) := (blk_cell BL.out 0).trans rfl
      clear hg hz HG
      go_wp2
      go_ret2
      exact ⟨_, rfl, Kd.R_mono HO.out (fun _ _ => trivial), D.out⟩
    · have hp : 0 < left.length := by omega
      have hpz : (0 : Int) < (left.length : Int) := by omega
      have hpb : decide ((0 : Int) < (left.length : Int)) = true := decide_eq_true hpz
      have hpn : decide (0 < left.length) = true := decide_eq_true hp
      have hcl : wr.cell? ⟨gl, 0, none⟩ = some (.slice A left.length c) := (blk_cell BL.out 0).trans rfl
      have hce : left.length ≤ c := (Kd.R_reads' HL.out).2.1
      have HI := HIX.out wr left A c D.out BE.out BL.out (Kd.R_reads' HL.out).2.2 hce
      have hg := HG.out
      rw [show left.length = (left.length - 1) + 1 by omega, impl_SerialOrder.go_step _ _ _ _ hp] at hg
      clear hz HG hce
      rcases impl_SerialOrder.first_cases l1 left with e | ⟨i, hi, e⟩
      · rw [e] at HI hg
        rw [if_pos (by omega)] at hg
        obtain ⟨rfl, rfl⟩ := Prod.mk.inj hg
        have HII := Aside0.mk HI
        clear HI hg e
        go_wp2_with (go_at_call 72; (with_reducible refine (HII.out).mono ?_); rintro e w2 ⟨rfl, hb⟩; have D2 := Aside0.mk (below_then D.out D.out.size hb); clear hb)
        go_ret2
        exact ⟨_, rfl, Kd.R_nil _ _ _ _ _, D2.out⟩
      · rw [e] at HI hg
        rw [if_neg (by omega), Int.toNat_natCast, List.eraseIdx_eq_take_drop_succ] at hg
        have hln : (left.take i ++ left.drop (i + 1)).length = left.length - 1 := by simp; omega
        rw [← hln] at hg
        obtain ⟨ad, e2, hx⟩ := Kd.at_int (Kd.R_reads' HL.out).2.2 (i : Int) (by omega) (by omega)
        cases e2
        rw [Int.toNat_natCast] at hx
        generalize rd left (i : Int) = x at hx hg
        have hi20 : (i : Int) < 20 := by have := HN.out; omega
        have hi0 : decide ((i : Int) < 0) = false := decide_eq_false (by omega)
        have hil : (i : Int) < (left.length : Int) := by omega
        have HLN := Aside0.mk hln
        have HGN := Aside0.mk hg
        have HII := Aside0.mk HI
        have HDF : Aside0 (slices_Delete_int_int.f left (i : Int) ((i : Int) + 1) = some (left.take i ++ left.drop (i + 1))) := ⟨by unfold slices_Delete_int_int.f; rw [if_pos (by omega)]; rw [Int.toNat_natCast, show ((i : Int) + 1).toNat = i + 1 by omega]⟩
        have HI2 := Aside0.mk hi
        clear HI hg e hln hi
        go_wp2_with (first
          | (go_at_call 72; (with_reducible refine (HII.out).mono ?_); rintro e w2 ⟨rfl, hb⟩; have D2 := Aside0.mk (below_then D.out D.out.size hb); have HL2 := Aside0.mk (Kd.R_below HL.out hb); have HO2 := Aside0.mk (Kd.R_below HO.out hb); have BL2 := Aside0.mk (blk_below BL.out hb); have BE2 := Aside0.mk (blk_below BE.out hb); have hx2 := pw_cell_below hb hx; have hcl2 := pw_cell_below hb hcl; clear hb hx hcl)
          | ((with_reducible refine gate_builtin (b := .append) (xs := #[.tmp 42, .tmp 47]) rfl ?_); at_builtin; refine Kd.R_append (Kd.int .i64) (w0 := w) w.heap.size rfl (.tmp 42) (.tmp 47) 51 3 (.int .i64 0) 8 rfl Try.underlying51 impl_SerialOrder.info3 rfl (by decide) (by omega) vO out x [.int .i64 x] (fun k => gl < k) (fun _ => False) rfl rfl ?aP (fun _ hk => hk.elim) ?aF ?aO ?aB ?aS ?aL ?_; (case aP => exact rfl); (case aF => exact (fun k hk => Nat.lt_of_lt_of_le (blk_lt BL2.out) hk)); (case aO => exact HO2.out); (case aB => exact D2.out); (case aS => exact D2.out.size); (case aL => have := HN.out; omega); intro v3 w3 ho hb hg hat; have HO3 := Aside0.mk ho; have D3 := Aside0.mk hb; have HL3 := Aside0.mk (Kd.R_grown HL2.out hg (fun k hk e => by have := HO2.out.1 k e.symm; omega)); have BL3 := Aside0.mk (blk_grown BL2.out hg (fun e => by have := HO2.out.1 gl e.symm; omega)); have BE3 := Aside0.mk (blk_grown BE2.out hg (fun e => by have := HO2.out.1 ge e.symm; have := GE.out; have := GW.out; omega)); clear ho hb hg hat; have hcl3 := (blk_cell BL3.out 0).trans rfl)
          | (go_at_call 76; (with_reducible refine (slices_Delete_int_int.calls (fun k => b0 ≤ k ∧ k < gl) _ left (i : Int) ((i : Int) + 1) _ w _ D3.out HL3.out HDF.out).mono ?_); rintro e w4 ⟨v4, rfl, ho, hb, hk⟩; obtain ⟨A4, c4, rfl⟩ := Kd.R_slice ho; have HL4 := Aside0.mk ho; have D4 := Aside0.mk hb; have HO4 := Aside0.mk (Kd.R_kept HO3.out hk (fun k h1 h2 => by omega)); have BL4 := Aside0.mk (blk_kept BL3.out hk (by omega)); have BE4 := Aside0.mk (blk_kept BE3.out hk (by have := GE.out; omega)); clear ho hb hk; have hcl4 := (blk_cell BL4.out 0).trans rfl; have hfl4 := blk_frozen BL4.out 0))
        go_roundg (left.take i ++ left.drop (i + 1)).length
        case measure => have := HLN.out; omega
        case rel =>
          refine ⟨left.take i ++ left.drop (i + 1), out ++ [x], A4, c4, _, rfl, Nat.le_refl _, ⟨?_⟩, HGN, ⟨Kd.R_far HL4.out (fun k hk e => ?_) _⟩, ⟨Kd.R_far HO4.out (fun k hk e => ?_) _⟩, ⟨?_⟩, ⟨blk_far BE4.out (fun e => ?_) _⟩, ⟨below_set D4.out (by have := GW.out; omega)⟩⟩
          · have := HN.out
            have := HLN.out
            have e3 : (out ++ [x]).length = out.length + 1 := by simp
            omega
          · have e' : k = gl := e
            omega
          · have e' : k = gl := e
            omega
          · exact blk_put BL4.out 0 _ (by simp)
          · have e' : ge = gl := e
            have := GE.out
            have := GW.out
            omega

end Go.Proofs.Ytnoalobmkecjpaa.XY
