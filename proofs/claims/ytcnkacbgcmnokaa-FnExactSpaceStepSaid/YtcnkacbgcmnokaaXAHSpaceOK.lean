-- Written for this claim: a contract of one function, proved by hand; the places of its template filled by a program.
import Derived.Test.YtcnkacbgcmnokaaXA0
import Derived.Test.YtcnkacbgcmnokaaXA5
import Derived.Lib.SlBy
import Derived.Lib.Walk
import Derived.Shelf.Abstract
namespace Go.Proofs.Ytcnkacbgcmnokaa.XA
open Go Go.RowKit Go.Proofs.YtcnkacbgcmnokaaW.PrintWords Go.Proofs.YtcnkacbgcmnokaaW.PrintLast Go.Proofs.YtcnkacbgcmnokaaW.PrintMore
set_option linter.unusedVariables false
set_option linter.unusedSimpArgs false
open Go.Proofs.Ytcnkacbgcmnokaa.Xtra
def impl_SpaceOK.win (x lo hi : Int) : Bool := (impl_within.f x lo hi).getD false
theorem impl_SpaceOK.win_some (x lo hi : Int) : impl_within.f x lo hi = some (impl_SpaceOK.win x lo hi) := by
  unfold impl_SpaceOK.win impl_within.f
  split <;> rfl
theorem impl_SpaceOK.win_iff (x lo hi : Int) : impl_SpaceOK.win x lo hi = true ↔ lo ≤ x ∧ x ≤ hi := by
  unfold impl_SpaceOK.win impl_within.f
  by_cases h : x ≥ lo
  · rw [if_pos h]; simp; intro _; omega
  · rw [if_neg h]; simp; omega
/-- Numbers in a range, each above the one ahead. -/
def impl_SpaceOK.rise (lo hi : Int) : Option Int → List Int → Bool
  | _, [] => true
  | p, x :: xs => impl_SpaceOK.win x lo hi && ((match p with | none => true | some y => !decide (x ≤ y)) && impl_SpaceOK.rise lo hi (some x) xs)
def impl_SpaceOK.prev (l : List Int) : Nat → Option Int
  | 0 => none
  | i + 1 => some (rd l (i : Int))
theorem impl_SpaceOK.rise_l0 (lo hi : Int) (l : List Int) (hm : l.length ≤ 9223372036854775807) : ∀ (d k i : Nat), i + d = l.length → d < k → impl_rising.l0 k l lo hi l (l.length : Int) (i : Int) = some (impl_SpaceOK.rise lo hi (impl_SpaceOK.prev l i) (l.drop i))
  | 0, k, i, hd, hk => by
    obtain ⟨k, rfl⟩ : ∃ m, k = m + 1 := ⟨k - 1, by omega⟩
    simp only [impl_rising.l0]
    rw [if_neg (by omega), List.drop_eq_nil_of_le (by omega)]
    rfl
  | d + 1, k, i, hd, hk => by
    obtain ⟨k, rfl⟩ : ∃ m, k = m + 1 := ⟨k - 1, by omega⟩
    have hlt : i < l.length := by omega
    have ih := impl_SpaceOK.rise_l0 lo hi l hm d k (i + 1) (by omega) (by omega)
    have hw : wrap64 ((i : Int) + 1) = ((i + 1 : Nat) : Int) := by unfold wrap64; omega
    have hrd : rd l (i : Int) = l[i] := by simp [rd, List.getD_eq_getElem?_getD, List.getElem?_eq_getElem hlt]
    simp only [impl_rising.l0]
    rw [if_pos (by omega), if_pos (by omega), if_pos (by omega), impl_SpaceOK.win_some, Option.bind_some, List.drop_eq_getElem_cons hlt, hw, ih, hrd]
    have hp : impl_SpaceOK.prev l (i + 1) = some l[i] := by rw [← hrd]; rfl
    simp only [impl_SpaceOK.rise]
    rw [hp]
    cases hb : impl_SpaceOK.win l[i] lo hi with
    | false => rfl
    | true =>
      simp only [if_true]
      cases i with
      | zero => simp [impl_SpaceOK.prev]
      | succ j =>
        have hw2 : wrap64 (((j + 1 : Nat) : Int) - 1) = (j : Int) := by unfold wrap64; omega
        rw [hw2, if_pos (by omega), if_pos (by omega), if_pos (by omega)]
        simp only [impl_SpaceOK.prev]
        by_cases hle : l[j + 1] ≤ rd l (j : Int)
        · rw [if_pos hle]; simp [hle]
        · rw [if_neg hle]; simp [hle]
theorem impl_SpaceOK.rise_some (l : List Int) (lo hi : Int) (hm : l.length ≤ 9223372036854775807) : impl_rising.f (l.length + 1) l lo hi = some (impl_SpaceOK.rise lo hi none l) :=
  impl_SpaceOK.rise_l0 lo hi l hm l.length (l.length + 1) 0 (by omega) (by omega)
theorem impl_SpaceOK.idx_l0 (x : Int) (l : List Int) (hm : l.length ≤ 9223372036854775807) : ∀ (d k i : Nat), i + d = l.length → d < k → ∃ r, slices_Index_int_int.l0 k l x (l.length : Int) (i : Int) = some r ∧ decide (r ≥ 0) = decide (x ∈ l.drop i)
  | 0, k, i, hd, hk => by
    obtain ⟨k, rfl⟩ : ∃ m, k = m + 1 := ⟨k - 1, by omega⟩
    simp only [slices_Index_int_int.l0]
    rw [if_neg (by omega), List.drop_eq_nil_of_le (by omega)]
    exact ⟨_, rfl, by simp⟩
  | d + 1, k, i, hd, hk => by
    obtain ⟨k, rfl⟩ : ∃ m, k = m + 1 := ⟨k - 1, by omega⟩
    have hlt : i < l.length := by omega
    obtain ⟨r, ih, hr⟩ := impl_SpaceOK.idx_l0 x l hm d k (i + 1) (by omega) (by omega)
    have hw : wrap64 ((i : Int) + 1) = ((i + 1 : Nat) : Int) := by unfold wrap64; omega
    have hrd : rd l (i : Int) = l[i] := by simp [rd, List.getD_eq_getElem?_getD, List.getElem?_eq_getElem hlt]
    simp only [slices_Index_int_int.l0]
    rw [if_pos (by omega), if_pos (by omega), if_pos (by omega), List.drop_eq_getElem_cons hlt, hw, ih, hrd]
    by_cases e : x = l[i]
    · rw [if_pos e]
      exact ⟨_, rfl, by rw [decide_eq_true (by omega), decide_eq_true (by rw [e]; exact List.mem_cons_self)]⟩
    · rw [if_neg e]
      exact ⟨r, rfl, by rw [hr]; exact decide_eq_decide.mpr (by rw [List.mem_cons]; exact (or_iff_right e).symm)⟩
theorem impl_SpaceOK.has_some (l : List Int) (x : Int) (hm : l.length ≤ 9223372036854775807) : slices_Contains_int_int.f (l.length + 1) l x = some (decide (x ∈ l)) := by
  obtain ⟨r, h, hr⟩ := impl_SpaceOK.idx_l0 x l hm l.length (l.length + 1) 0 (by omega) (by omega)
  unfold slices_Contains_int_int.f slices_Index_int_int.f
  rw [show ((0 : Nat) : Int) = 0 from rfl] at h
  rw [h, Option.bind_some, hr]
  rfl
theorem impl_SpaceOK.held_l0 (l : List S74) (hm : l.length ≤ 8796093022208) : ∀ (d k i : Nat) (acc : List Int), i + d = l.length → acc.length = i → d < k → impl_Space_heldPages.l0 k acc l (l.length : Int) (i : Int) = some (acc ++ (l.drop i).map (·.f0))
  | 0, k, i, acc, hd, ha, hk => by
    obtain ⟨k, rfl⟩ : ∃ m, k = m + 1 := ⟨k - 1, by omega⟩
    simp only [impl_Space_heldPages.l0]
    rw [if_neg (by omega), List.drop_eq_nil_of_le (by omega)]
    simp
  | d + 1, k, i, acc, hd, ha, hk => by
    obtain ⟨k, rfl⟩ : ∃ m, k = m + 1 := ⟨k - 1, by omega⟩
    have hlt : i < l.length := by omega
    have hw : wrap64 ((i : Int) + 1) = ((i + 1 : Nat) : Int) := by unfold wrap64; omega
    have hrd : rd_T74 l (i : Int) = l[i] := by simp [rd_T74, List.getD_eq_getElem?_getD, List.getElem?_eq_getElem hlt]
    have ih := impl_SpaceOK.held_l0 l hm d k (i + 1) (acc ++ [(rd_T74 l (i : Int)).f0]) (by omega) (by simp [ha]) (by omega)
    simp only [impl_Space_heldPages.l0]
    rw [if_pos (by omega), if_pos (by omega), if_pos (by omega), if_pos (by omega), hw, ih, List.drop_eq_getElem_cons hlt, hrd, List.map_cons, List.append_assoc]
    rfl
theorem impl_SpaceOK.held_some (a b : Int) (l2 l4 : List Int) (l : List S74) (hm : l.length ≤ 8796093022208) : impl_Space_heldPages.f (l.length + 1) a b l2 l l4 = some (l.map (·.f0)) := by
  have h := impl_SpaceOK.held_l0 l hm l.length (l.length + 1) 0 [] (by omega) rfl (by omega)
  simpa [impl_Space_heldPages.f] using h
/-- What the three closures tell. -/
def impl_SpaceOK.q1 (l : List Int) (x : Int) : Bool := decide (x ∈ l)
def impl_SpaceOK.q2 (ep : Int) (x : S74) : Bool := !impl_SpaceOK.win x.f1 0 (wrap64 (ep - 1))
def impl_SpaceOK.q3 (ep x : Int) : Bool := !impl_SpaceOK.win x 0 ep
def impl_SpaceOK.f (a0_0 a0_1 : Int) (l0_2 : List Int) (l0_3 : List S74) (l0_4 : List Int) : Option Bool :=
  if l0_3.length ≤ 8796093022208 then some (impl_SpaceOK.win a0_0 1 64 && (impl_SpaceOK.win a0_1 0 1000000 && (impl_SpaceOK.rise 0 (wrap64 (a0_0 - 1)) none l0_2 && (impl_SpaceOK.rise 0 (wrap64 (a0_0 - 1)) none (l0_3.map (·.f0)) && (!(l0_3.map (·.f0)).any (impl_SpaceOK.q1 l0_2) && (!l0_3.any (impl_SpaceOK.q2 a0_1) && (decide ((l0_4.length : Int) ≤ 4) && !l0_4.any (impl_SpaceOK.q3 a0_1)))))))) else none
set_option maxHeartbeats 2000000 in
theorem impl_SpaceOK.c1 (g : Nat) (A0_2 : Option Addr) (c0_2 : Nat) (l0_2 : List Int) (v0 v1 v3 v4 : Value) (x : Int) (W : World) (hb : W.heap[g]? = some (.cells #[v0, v1, .slice A0_2 l0_2.length c0_2, v3, v4] 31 (0, 0))) (hr : Kd.C (Kd.int .i64) W A0_2 l0_2.length l0_2) (hc : l0_2.length ≤ c0_2) :
    Calls Try.prog 52 #[.int .i64 x, .pointer (some ⟨g, 0, none⟩)] W fun e W' => e = .returned (.bool (impl_SpaceOK.q1 l0_2 x)) ∧ Below W.heap.size W W' := by
  have hud := Try.underlying31
  have hm : l0_2.length ≤ 9223372036854775807 := hr.2.1
  have hx2 : W.cell? ⟨g, 2, none⟩ = some (.slice A0_2 l0_2.length c0_2) := (blk_cell hb 2).trans rfl
  have HR := Aside0.mk hr
  have HH := Aside0.mk (impl_SpaceOK.has_some l0_2 x hm)
  clear hb hr
  unfold impl_SpaceOK.q1
  generalize decide (x ∈ l0_2) = b at HH ⊢
  go_enter Try.func52, Try.ntmps52
  go_wp2_with (go_at_call 53; (with_reducible refine (slices_Contains_int_int.calls _ A0_2 c0_2 l0_2 x b _ HR.out hc HH.out).mono ?_); rintro e w' ⟨rfl, hd⟩; have D := Aside0.mk hd.below; clear hd)
  go_ret
  exact ⟨rfl, D.out⟩
set_option maxHeartbeats 2000000 in
theorem impl_SpaceOK.c2 (g : Nat) (ep : Int) (v0 v2 v3 v4 : Value) (x : S74) (W : World) (hb : W.heap[g]? = some (.cells #[v0, .int .i64 ep, v2, v3, v4] 31 (0, 0))) :
    Calls Try.prog 55 #[.agg #[.int .i64 x.f0, .int .i64 x.f1], .pointer (some ⟨g, 0, none⟩)] W fun e W' => e = .returned (.bool (impl_SpaceOK.q2 ep x)) ∧ Below W.heap.size W W' := by
  have hud := Try.underlying31
  have hu := Try.underlying74
  have hz1 := fun o => (pw_cell_below (below_alloc (Below.refl W.heap.size W) o) ((blk_cell hb 1).trans rfl))
  clear hb
  unfold impl_SpaceOK.q2
  have HH := Aside0.mk (impl_SpaceOK.win_some x.f1 0 (wrap64 (ep - 1)))
  have hwe := i64_w (ep - 1)
  generalize impl_SpaceOK.win x.f1 0 (wrap64 (ep - 1)) = b at HH ⊢
  cases b <;> (
    go_enter Try.func55, Try.ntmps55
    go_wp2_with (go_at_call 49; (try simp only [i64_w]); (with_reducible refine (impl_within.calls x.f1 0 (wrap64 (ep - 1)) _ _ HH.out).mono ?_); rintro e w' ⟨rfl, hd⟩; have D := Aside0.mk (below_then (below_alloc (Below.refl W.heap.size W) _) (below_alloc (Below.refl W.heap.size W) _).size hd.below); clear hd)
    go_ret
    exact ⟨rfl, D.out⟩)
set_option maxHeartbeats 2000000 in
theorem impl_SpaceOK.c3 (g : Nat) (ep : Int) (v0 v2 v3 v4 : Value) (x : Int) (W : World) (hb : W.heap[g]? = some (.cells #[v0, .int .i64 ep, v2, v3, v4] 31 (0, 0))) :
    Calls Try.prog 56 #[.int .i64 x, .pointer (some ⟨g, 0, none⟩)] W fun e W' => e = .returned (.bool (impl_SpaceOK.q3 ep x)) ∧ Below W.heap.size W W' := by
  have hud := Try.underlying31
  have hx1 : W.cell? ⟨g, 1, none⟩ = some (.int .i64 ep) := (blk_cell hb 1).trans rfl
  clear hb
  unfold impl_SpaceOK.q3
  have HH := Aside0.mk (impl_SpaceOK.win_some x 0 ep)
  generalize impl_SpaceOK.win x 0 ep = b at HH ⊢
  cases b <;> (
    go_enter Try.func56, Try.ntmps56
    go_wp2_with (go_at_call 49; (with_reducible refine (impl_within.calls x 0 ep _ _ HH.out).mono ?_); rintro e w' ⟨rfl, hd⟩; have D := Aside0.mk hd.below; clear hd)
    go_ret
    exact ⟨rfl, D.out⟩)

set_option maxHeartbeats 2000000 in
/-- slices.IndexFunc at this element type, over a predicate that a function value gives. -/
theorem impl_SpaceOKa_idx (p : Int → Bool) (g : Nat) (lb : Array Value) (A : Option Addr) (c : Nat) (l : List Int) (w : World)
    (eg : ∀ args w, (callFunc g args).run Try.prog w = .ok (.enter g args) w)
    (hp : ∀ (W : World) (x : Int), Below w.heap.size w W → Calls Try.prog g (#[.int .i64 x] ++ lb) W fun e W' => e = .returned (.bool (p x)) ∧ Below W.heap.size W W')
    (hr : Kd.C (Kd.int .i64) w A l.length l) :
    Calls Try.prog 66 #[.slice A l.length c, .func (.func g) #[] lb] w fun e w' => e = .returned (.int .i64 (Lib.idxBy (fun _ y => p y) l 0)) ∧ Below w.heap.size w w' := by
  have hm : l.length ≤ 9223372036854775807 := hr.2.1
  by_cases hl : l = []
  · subst hl
    clear hp
    go_enter Try.func66, Try.ntmps66
    go_wp2
    go_loopg [5, 8] 0 (fun _ _ s8 wr => s8 = .int .i64 0 ∧ wr = w)
    case atStart => exact ⟨rfl, rfl⟩
    case round =>
      obtain ⟨rfl, rfl⟩ := hrel
      go_wp2
      go_ret
      exact ⟨rfl, Below.refl _ _⟩
  · have hpos : 0 < l.length := List.length_pos_iff.mpr hl
    obtain ⟨ad, rfl, hx0⟩ := hr.2.2 hpos
    clear hx0 hl
    have HR := Aside0.mk hr
    clear hr
    have HP := Aside0.mk hp
    clear hp
    go_enter Try.func66, Try.ntmps66
    go_wp2
    go_loopg [5, 8] l.length (fun gg _ s8 wr => ∃ kk : Nat, kk ≤ l.length ∧ l.length - kk ≤ gg ∧ s8 = .int .i64 kk ∧ Aside0 (Below w.heap.size w wr) ∧ Aside0 (∀ j, j < kk → p (l.getD j 0) = false))
    case atStart => exact ⟨0, Nat.zero_le _, by omega, rfl, ⟨Below.refl _ _⟩, ⟨fun j hj => absurd hj (Nat.not_lt_zero _)⟩⟩
    case round =>
      obtain ⟨kk, hkk, hg, rfl, D, B⟩ := hrel
      by_cases hlt : kk < l.length
      · have hltz : (kk : Int) < (l.length : Int) := by omega
        obtain ⟨ad2, e2, hx0⟩ := Kd.at_int (Kd.C_below HR.out D.out) (kk : Int) (by omega) hltz
        obtain rfl := Option.some.inj e2
        clear e2
        rw [Int.toNat_natCast] at hx0
        generalize hy : rd l (kk : Int) = y at hx0
        have Y : Aside0 (l.getD kk 0 = y) := ⟨by rw [← hy]; simp [rd]⟩
        clear hy
        have hcall : ∀ W, Below w.heap.size w W → Calls Try.prog g (#[.int .i64 y] ++ lb) W fun e W' => e = .returned (.bool (p y)) ∧ Below W.heap.size W W' := fun W => HP.out W y
        have HC := Aside0.mk hcall
        clear hcall
        cases hq : p y with
        | true =>
          rw [hq] at HC
          have HQ := Aside0.mk hq
          clear hq
          go_wp2_with (go_at_fn g; refine (HC.out _ D.out).mono ?_; rintro e w' ⟨rfl, hb⟩)
          go_ret
          refine ⟨?_, below_then D.out D.out.size hb⟩
          rw [idx_hit p l 0 kk hlt (by rw [Y.out]; exact HQ.out) B.out]
          rfl
        | false =>
          rw [hq] at HC
          have HQ := Aside0.mk hq
          clear hq
          go_wp2_with (go_at_fn g; refine (HC.out _ D.out).mono ?_; rintro e w' ⟨rfl, hb⟩)
          go_roundg (l.length - (kk + 1))
          case measure => omega
          case rel =>
            refine ⟨kk + 1, by omega, by omega, by go_num, ⟨below_then D.out D.out.size hb⟩, ⟨fun j hj => ?_⟩⟩
            by_cases e : j = kk
            · subst e
              rw [Y.out]
              exact HQ.out
            · exact B.out j (by omega)
      · have hltz : ¬ (kk : Int) < (l.length : Int) := by omega
        have hz : kk = l.length := by omega
        subst hz
        go_wp2
        go_ret
        refine ⟨?_, D.out⟩
        rw [idx_miss p l 0 B.out]
        rfl

set_option maxHeartbeats 2000000 in
/-- slices.ContainsFunc at this element type. -/
theorem impl_SpaceOKa_has (p : Int → Bool) (g : Nat) (lb : Array Value) (A : Option Addr) (c : Nat) (l : List Int) (w : World)
    (eg : ∀ args w, (callFunc g args).run Try.prog w = .ok (.enter g args) w)
    (hp : ∀ (W : World) (x : Int), Below w.heap.size w W → Calls Try.prog g (#[.int .i64 x] ++ lb) W fun e W' => e = .returned (.bool (p x)) ∧ Below W.heap.size W W')
    (hr : Kd.C (Kd.int .i64) w A l.length l) :
    Calls Try.prog 51 #[.slice A l.length c, .func (.func g) #[] lb] w fun e w' => e = .returned (.bool (l.any p)) ∧ Below w.heap.size w w' := by
  rw [show l.any p = decide (0 ≤ Lib.idxBy (fun _ y => p y) l 0) from (Lib.idxBy_nonneg_iff (fun _ y => p y) l 0).symm]
  have HI : Calls Try.prog 66 #[.slice A l.length c, .func (.func g) #[] lb] w fun e w' => e = .returned (.int .i64 (Lib.idxBy (fun _ y => p y) l 0)) ∧ Below w.heap.size w w' := impl_SpaceOKa_idx p g lb A c l w eg hp hr
  clear hp hr
  generalize Lib.idxBy (fun _ y => p y) l 0 = n at HI ⊢
  have HH := Aside0.mk HI
  clear HI
  go_enter Try.func51, Try.ntmps51
  go_wp2_with (go_at_call 66; refine (HH.out).mono ?_; rintro e w' ⟨rfl, hb⟩)
  go_ret
  exact ⟨rfl, hb⟩


set_option maxHeartbeats 2000000 in
/-- slices.IndexFunc at this element type, over a predicate that a function value gives. -/
theorem impl_SpaceOKb_idx (p : S74 → Bool) (g : Nat) (lb : Array Value) (A : Option Addr) (c : Nat) (l : List S74) (w : World)
    (eg : ∀ args w, (callFunc g args).run Try.prog w = .ok (.enter g args) w)
    (hp : ∀ (W : World) (x : S74), Below w.heap.size w W → Calls Try.prog g (#[.agg #[.int .i64 x.f0, .int .i64 x.f1]] ++ lb) W fun e W' => e = .returned (.bool (p x)) ∧ Below W.heap.size W W')
    (hr : Kd.C k74 w A l.length l) :
    Calls Try.prog 68 #[.slice A l.length c, .func (.func g) #[] lb] w fun e w' => e = .returned (.int .i64 (Lib.idxBy (fun _ y => p y) l z74)) ∧ Below w.heap.size w w' := by
  have hm : l.length ≤ 9223372036854775807 := hr.2.1
  by_cases hl : l = []
  · subst hl
    clear hp
    go_enter Try.func68, Try.ntmps68
    go_wp2
    go_loopg [5, 8] 0 (fun _ _ s8 wr => s8 = .int .i64 0 ∧ wr = w)
    case atStart => exact ⟨rfl, rfl⟩
    case round =>
      obtain ⟨rfl, rfl⟩ := hrel
      go_wp2
      go_ret
      exact ⟨rfl, Below.refl _ _⟩
  · have hpos : 0 < l.length := List.length_pos_iff.mpr hl
    obtain ⟨ad, rfl, hx0⟩ := hr.2.2 hpos
    clear hx0 hl
    have HR := Aside0.mk hr
    clear hr
    have HP := Aside0.mk hp
    clear hp
    go_enter Try.func68, Try.ntmps68
    go_wp2
    go_loopg [5, 8] l.length (fun gg _ s8 wr => ∃ kk : Nat, kk ≤ l.length ∧ l.length - kk ≤ gg ∧ s8 = .int .i64 kk ∧ Aside0 (Below w.heap.size w wr) ∧ Aside0 (∀ j, j < kk → p (l.getD j z74) = false))
    case atStart => exact ⟨0, Nat.zero_le _, by omega, rfl, ⟨Below.refl _ _⟩, ⟨fun j hj => absurd hj (Nat.not_lt_zero _)⟩⟩
    case round =>
      obtain ⟨kk, hkk, hg, rfl, D, B⟩ := hrel
      by_cases hlt : kk < l.length
      · have hltz : (kk : Int) < (l.length : Int) := by omega
        obtain ⟨ad2, e2, hx0, hx1⟩ := at_T74 (Kd.C_below HR.out D.out) (kk : Int) (by omega) hltz
        obtain rfl := Option.some.inj e2
        clear e2
        rw [Int.toNat_natCast] at hx0 hx1
        generalize hy : rd_T74 l (kk : Int) = y at hx0 hx1
        have Y : Aside0 (l.getD kk z74 = y) := ⟨by rw [← hy]; simp [rd_T74]⟩
        clear hy
        have hcall : ∀ W, Below w.heap.size w W → Calls Try.prog g (#[.agg #[.int .i64 y.f0, .int .i64 y.f1]] ++ lb) W fun e W' => e = .returned (.bool (p y)) ∧ Below W.heap.size W W' := fun W => HP.out W y
        have HC := Aside0.mk hcall
        clear hcall
        cases hq : p y with
        | true =>
          rw [hq] at HC
          have HQ := Aside0.mk hq
          clear hq
          go_wp2_with (go_at_fn g; refine (HC.out _ D.out).mono ?_; rintro e w' ⟨rfl, hb⟩)
          go_ret
          refine ⟨?_, below_then D.out D.out.size hb⟩
          rw [idx_hit p l z74 kk hlt (by rw [Y.out]; exact HQ.out) B.out]
          rfl
        | false =>
          rw [hq] at HC
          have HQ := Aside0.mk hq
          clear hq
          go_wp2_with (go_at_fn g; refine (HC.out _ D.out).mono ?_; rintro e w' ⟨rfl, hb⟩)
          go_roundg (l.length - (kk + 1))
          case measure => omega
          case rel =>
            refine ⟨kk + 1, by omega, by omega, by go_num, ⟨below_then D.out D.out.size hb⟩, ⟨fun j hj => ?_⟩⟩
            by_cases e : j = kk
            · subst e
              rw [Y.out]
              exact HQ.out
            · exact B.out j (by omega)
      · have hltz : ¬ (kk : Int) < (l.length : Int) := by omega
        have hz : kk = l.length := by omega
        subst hz
        go_wp2
        go_ret
        refine ⟨?_, D.out⟩
        rw [idx_miss p l z74 B.out]
        rfl

set_option maxHeartbeats 2000000 in
/-- slices.ContainsFunc at this element type. -/
theorem impl_SpaceOKb_has (p : S74 → Bool) (g : Nat) (lb : Array Value) (A : Option Addr) (c : Nat) (l : List S74) (w : World)
    (eg : ∀ args w, (callFunc g args).run Try.prog w = .ok (.enter g args) w)
    (hp : ∀ (W : World) (x : S74), Below w.heap.size w W → Calls Try.prog g (#[.agg #[.int .i64 x.f0, .int .i64 x.f1]] ++ lb) W fun e W' => e = .returned (.bool (p x)) ∧ Below W.heap.size W W')
    (hr : Kd.C k74 w A l.length l) :
    Calls Try.prog 54 #[.slice A l.length c, .func (.func g) #[] lb] w fun e w' => e = .returned (.bool (l.any p)) ∧ Below w.heap.size w w' := by
  rw [show l.any p = decide (0 ≤ Lib.idxBy (fun _ y => p y) l z74) from (Lib.idxBy_nonneg_iff (fun _ y => p y) l z74).symm]
  have HI : Calls Try.prog 68 #[.slice A l.length c, .func (.func g) #[] lb] w fun e w' => e = .returned (.int .i64 (Lib.idxBy (fun _ y => p y) l z74)) ∧ Below w.heap.size w w' := impl_SpaceOKb_idx p g lb A c l w eg hp hr
  clear hp hr
  generalize Lib.idxBy (fun _ y => p y) l z74 = n at HI ⊢
  have HH := Aside0.mk HI
  clear HI
  go_enter Try.func54, Try.ntmps54
  go_wp2_with (go_at_call 68; refine (HH.out).mono ?_; rintro e w' ⟨rfl, hb⟩)
  go_ret
  exact ⟨rfl, hb⟩

set_option maxHeartbeats 16000000 in
set_option maxRecDepth 100000 in
theorem impl_SpaceOK.calls (a0_0 a0_1 : Int) (A0_2 : Option Addr) (c0_2 : Nat) (l0_2 : List Int) (A0_3 : Option Addr) (c0_3 : Nat) (l0_3 : List S74) (A0_4 : Option Addr) (c0_4 : Nat) (l0_4 : List Int) (r : Bool) (w : World) (hr0_2 : Kd.C (Kd.int .i64) w A0_2 l0_2.length l0_2) (hc0_2 : l0_2.length ≤ c0_2) (hr0_3 : Kd.C k74 w A0_3 l0_3.length l0_3) (hc0_3 : l0_3.length ≤ c0_3) (hr0_4 : Kd.C (Kd.int .i64) w A0_4 l0_4.length l0_4) (hc0_4 : l0_4.length ≤ c0_4) (h : impl_SpaceOK.f a0_0 a0_1 l0_2 l0_3 l0_4 = some r) :
    Calls Try.prog 32 #[.agg #[.int .i64 a0_0, .int .i64 a0_1, .slice A0_2 l0_2.length c0_2, .slice A0_3 l0_3.length c0_3, .slice A0_4 l0_4.length c0_4]] w fun e w' => e = .returned (.bool r) ∧ Below w.heap.size w w' := by
  have hud := Try.underlying31
  unfold impl_SpaceOK.f at h
  by_cases hl3 : l0_3.length ≤ 8796093022208
  · rw [if_pos hl3] at h
    obtain rfl := Option.some.inj h
    clear h
    have hm2 : l0_2.length ≤ 9223372036854775807 := hr0_2.2.1
    have HR2 := Aside0.mk hr0_2
    have HR3 := Aside0.mk hr0_3
    have HR4 := Aside0.mk hr0_4
    clear hr0_2 hr0_3 hr0_4
    have hhp := impl_SpaceOK.held_some a0_0 a0_1 l0_2 l0_4 l0_3 hl3
    have hlh : (l0_3.map (·.f0)).length ≤ 9223372036854775807 := by rw [List.length_map]; omega
    have HWA := Aside0.mk (impl_SpaceOK.win_some a0_0 1 64)
    have HWB := Aside0.mk (impl_SpaceOK.win_some a0_1 0 1000000)
    have HRA := Aside0.mk (impl_SpaceOK.rise_some l0_2 0 (wrap64 (a0_0 - 1)) hm2)
    have HRB := Aside0.mk (impl_SpaceOK.rise_some (l0_3.map (·.f0)) 0 (wrap64 (a0_0 - 1)) hlh)
    clear hlh hm2
    obtain ⟨lh, hlh⟩ : ∃ lh, lh = l0_3.map (·.f0) := ⟨_, rfl⟩
    rw [← hlh] at hhp HRB ⊢
    have HHP := Aside0.mk hhp
    clear hhp hlh
    generalize impl_SpaceOK.win a0_0 1 64 = b1 at HWA ⊢
    generalize impl_SpaceOK.win a0_1 0 1000000 = b2 at HWB ⊢
    generalize impl_SpaceOK.rise 0 (wrap64 (a0_0 - 1)) none l0_2 = b3 at HRA ⊢
    generalize impl_SpaceOK.rise 0 (wrap64 (a0_0 - 1)) none lh = b4 at HRB ⊢
    have HC1 : Aside0 (∀ (xs : List Int) (A : Option Addr) (c g : Nat) (W : World), W.heap[g]? = some (.cells #[.int .i64 a0_0, .int .i64 a0_1, .slice A0_2 l0_2.length c0_2, .slice A0_3 l0_3.length c0_3, .slice A0_4 l0_4.length c0_4] 31 (0, 0)) → Kd.C (Kd.int .i64) W A0_2 l0_2.length l0_2 → Kd.C (Kd.int .i64) W A xs.length xs → Calls Try.prog 51 #[.slice A xs.length c, .func (.func 52) #[] #[.pointer (some ⟨g, 0, none⟩)]] W fun e W' => e = .returned (.bool (xs.any (impl_SpaceOK.q1 l0_2))) ∧ Below W.heap.size W W') := ⟨fun xs A c g W hg hC2 hC =>
      impl_SpaceOKa_has (impl_SpaceOK.q1 l0_2) 52 #[.pointer (some ⟨g, 0, none⟩)] A c xs W (enters_of Try.func52 (by kernel_rfl) rfl) (fun W' x hW => by simpa using impl_SpaceOK.c1 g A0_2 c0_2 l0_2 _ _ _ _ x W' (blk_below hg hW) (Kd.C_below hC2 hW) hc0_2) hC⟩
    have HC2 : Aside0 (∀ (g : Nat) (W : World), W.heap[g]? = some (.cells #[.int .i64 a0_0, .int .i64 a0_1, .slice A0_2 l0_2.length c0_2, .slice A0_3 l0_3.length c0_3, .slice A0_4 l0_4.length c0_4] 31 (0, 0)) → Kd.C k74 W A0_3 l0_3.length l0_3 → Calls Try.prog 54 #[.slice A0_3 l0_3.length c0_3, .func (.func 55) #[] #[.pointer (some ⟨g, 0, none⟩)]] W fun e W' => e = .returned (.bool (l0_3.any (impl_SpaceOK.q2 a0_1))) ∧ Below W.heap.size W W') := ⟨fun g W hg hC =>
      impl_SpaceOKb_has (impl_SpaceOK.q2 a0_1) 55 #[.pointer (some ⟨g, 0, none⟩)] A0_3 c0_3 l0_3 W (enters_of Try.func55 (by kernel_rfl) rfl) (fun W' x hW => by simpa using impl_SpaceOK.c2 g a0_1 _ _ _ _ x W' (blk_below hg hW)) hC⟩
    have HC3 : Aside0 (∀ (g : Nat) (W : World), W.heap[g]? = some (.cells #[.int .i64 a0_0, .int .i64 a0_1, .slice A0_2 l0_2.length c0_2, .slice A0_3 l0_3.length c0_3, .slice A0_4 l0_4.length c0_4] 31 (0, 0)) → Kd.C (Kd.int .i64) W A0_4 l0_4.length l0_4 → Calls Try.prog 51 #[.slice A0_4 l0_4.length c0_4, .func (.func 56) #[] #[.pointer (some ⟨g, 0, none⟩)]] W fun e W' => e = .returned (.bool (l0_4.any (impl_SpaceOK.q3 a0_1))) ∧ Below W.heap.size W W') := ⟨fun g W hg hC =>
      impl_SpaceOKa_has (impl_SpaceOK.q3 a0_1) 56 #[.pointer (some ⟨g, 0, none⟩)] A0_4 c0_4 l0_4 W (enters_of Try.func56 (by kernel_rfl) rfl) (fun W' x hW => by simpa using impl_SpaceOK.c3 g a0_1 _ _ _ _ x W' (blk_below hg hW)) hC⟩
    generalize hb5 : lh.any (impl_SpaceOK.q1 l0_2) = b5
    have HB5 := Aside0.mk hb5
    clear hb5
    generalize l0_3.any (impl_SpaceOK.q2 a0_1) = b6 at HC2 ⊢
    generalize hb7 : decide ((l0_4.length : Int) ≤ 4) = b7
    have hb7' : decide (l0_4.length ≤ 4) = b7 := by rw [← hb7]; congr 1; exact propext (by omega)
    generalize l0_4.any (impl_SpaceOK.q3 a0_1) = b8 at HC3 ⊢
    have B0 := Aside0.mk (below_alloc (Below.refl w.heap.size w) (.cells #[.int .i64 a0_0, .int .i64 a0_1, .slice A0_2 l0_2.length c0_2, .slice A0_3 l0_3.length c0_3, .slice A0_4 l0_4.length c0_4] 31 (0, 0)))
    have BK0 := Aside0.mk (blk_new w (.cells #[.int .i64 a0_0, .int .i64 a0_1, .slice A0_2 l0_2.length c0_2, .slice A0_3 l0_3.length c0_3, .slice A0_4 l0_4.length c0_4] 31 (0, 0)))
    go_enter Try.func32, Try.ntmps32
    go_upto_region 1 with (fail)
    obtain ⟨gb, hgb⟩ : ∃ gb, gb = w.heap.size := ⟨_, rfl⟩
    rw [← hgb] at BK0 ⊢
    clear hgb
    obtain ⟨W1, hW1⟩ : ∃ W1, W1 = w.alloc (.cells #[.int .i64 a0_0, .int .i64 a0_1, .slice A0_2 l0_2.length c0_2, .slice A0_3 l0_3.length c0_3, .slice A0_4 l0_4.length c0_4] 31 (0, 0)) := ⟨_, rfl⟩
    rw [← hW1] at BK0 B0 ⊢
    clear hW1
    have hcz0 : W1.cell? ⟨gb, 0, none⟩ = some (.int .i64 a0_0) := (blk_cell BK0.out 0).trans rfl
    have hcz1 : W1.cell? ⟨gb, 1, none⟩ = some (.int .i64 a0_1) := (blk_cell BK0.out 1).trans rfl
    have hcz2 : W1.cell? ⟨gb, 2, none⟩ = some (.slice A0_2 l0_2.length c0_2) := (blk_cell BK0.out 2).trans rfl
    have hcz3 : W1.cell? ⟨gb, 3, none⟩ = some (.slice A0_3 l0_3.length c0_3) := (blk_cell BK0.out 3).trans rfl
    have hcz4 : W1.cell? ⟨gb, 4, none⟩ = some (.slice A0_4 l0_4.length c0_4) := (blk_cell BK0.out 4).trans rfl
    have HR3a := Aside0.mk (Kd.C_below HR3.out B0.out)
    have HR2a := Aside0.mk (Kd.C_below HR2.out B0.out)
    have HR4a := Aside0.mk (Kd.C_below HR4.out B0.out)
    have HC3_ := Aside0.mk hc0_3
    go_upto_region 2 with (go_at_call 48; (with_reducible refine (impl_Space_heldPages.calls _ a0_0 a0_1 A0_2 c0_2 l0_2 A0_3 c0_3 l0_3 A0_4 c0_4 l0_4 _ _ HR2a.out hc0_2 HR3a.out hc0_3 HR4a.out hc0_4 HHP.out).mono ?_); rintro e w2 ⟨vh, rfl, hvh, hb⟩; obtain ⟨Ah, ch, rfl⟩ := Kd.R_slice hvh; have D := Aside0.mk (below_then B0.out B0.out.size hb); have BK := Aside0.mk (blk_below BK0.out hb); have HRH := Aside0.mk (Kd.R_reads' hvh).2; clear hb hvh)
    clear hcz0 hcz1 hcz2 hcz3 hcz4 HR2a HR3a HR4a BK0 B0 HHP
    have hcz0 : w2.cell? ⟨gb, 0, none⟩ = some (.int .i64 a0_0) := (blk_cell BK.out 0).trans rfl
    have hcz1 : w2.cell? ⟨gb, 1, none⟩ = some (.int .i64 a0_1) := (blk_cell BK.out 1).trans rfl
    have hcz2 : w2.cell? ⟨gb, 2, none⟩ = some (.slice A0_2 l0_2.length c0_2) := (blk_cell BK.out 2).trans rfl
    have hcz3 : w2.cell? ⟨gb, 3, none⟩ = some (.slice A0_3 l0_3.length c0_3) := (blk_cell BK.out 3).trans rfl
    have hcz4 : w2.cell? ⟨gb, 4, none⟩ = some (.slice A0_4 l0_4.length c0_4) := (blk_cell BK.out 4).trans rfl
    have hch : lh.length ≤ ch := HRH.out.1
    have HRHC := Aside0.mk HRH.out.2
    clear HRH
    have HLE := Aside0.mk hch
    clear hch
    have hwe := i64_w (a0_0 - 1)
    cases b1 with
    | false =>
      go_wp2_with (go_at_call 49; (with_reducible refine (impl_within.calls a0_0 1 64 _ _ HWA.out).mono ?_); rintro e w' ⟨rfl, ⟨nd, rfl⟩⟩)
      go_ret
      exact ⟨by simp, (by repeat (first | exact D.out | apply below_alloc | apply pw_below_drewN | apply below_drew1))⟩
    | true =>
    cases b2 with
    | false =>
      go_wp2_with (first | (go_at_call 49; (with_reducible refine (impl_within.calls a0_0 1 64 _ _ HWA.out).mono ?_); rintro e w' ⟨rfl, ⟨nd, rfl⟩⟩) | (go_at_call 49; (with_reducible refine (impl_within.calls a0_1 0 1000000 _ _ HWB.out).mono ?_); rintro e w' ⟨rfl, ⟨nd, rfl⟩⟩))
      go_ret
      exact ⟨by simp, (by repeat (first | exact D.out | apply below_alloc | apply pw_below_drewN | apply below_drew1))⟩
    | true =>
    cases b3 with
    | false =>
      go_wp2_with (first | (go_at_call 49; (with_reducible refine (impl_within.calls a0_0 1 64 _ _ HWA.out).mono ?_); rintro e w' ⟨rfl, ⟨nd, rfl⟩⟩) | (go_at_call 49; (with_reducible refine (impl_within.calls a0_1 0 1000000 _ _ HWB.out).mono ?_); rintro e w' ⟨rfl, ⟨nd, rfl⟩⟩) | (go_at_call 50; (try simp only [i64_w]); (with_reducible refine (impl_rising.calls _ A0_2 c0_2 l0_2 0 (wrap64 (a0_0 - 1)) _ _ (Kd.C_below HR2.out (by repeat (first | exact D.out | apply below_alloc | apply pw_below_drewN | apply below_drew1))) hc0_2 HRA.out).mono ?_); rintro e w' ⟨rfl, ⟨nd, rfl⟩⟩))
      go_ret
      exact ⟨by simp, (by repeat (first | exact D.out | apply below_alloc | apply pw_below_drewN | apply below_drew1))⟩
    | true =>
    cases b4 with
    | false =>
      go_wp2_with (first | (go_at_call 49; (with_reducible refine (impl_within.calls a0_0 1 64 _ _ HWA.out).mono ?_); rintro e w' ⟨rfl, ⟨nd, rfl⟩⟩) | (go_at_call 49; (with_reducible refine (impl_within.calls a0_1 0 1000000 _ _ HWB.out).mono ?_); rintro e w' ⟨rfl, ⟨nd, rfl⟩⟩) | (go_at_call 50; (try simp only [i64_w]); (with_reducible refine (impl_rising.calls _ A0_2 c0_2 l0_2 0 (wrap64 (a0_0 - 1)) _ _ (Kd.C_below HR2.out (by repeat (first | exact D.out | apply below_alloc | apply pw_below_drewN | apply below_drew1))) hc0_2 HRA.out).mono ?_); rintro e w' ⟨rfl, ⟨nd, rfl⟩⟩) | (go_at_call 50; (try simp only [i64_w]); (with_reducible refine (impl_rising.calls _ Ah ch lh 0 (wrap64 (a0_0 - 1)) _ _ (Kd.C_below HRHC.out (by repeat (first | exact Below.refl _ _ | apply below_alloc | apply pw_below_drewN | apply below_drew1))) HLE.out HRB.out).mono ?_); rintro e w' ⟨rfl, ⟨nd, rfl⟩⟩))
      go_ret
      exact ⟨by simp, (by repeat (first | exact D.out | apply below_alloc | apply pw_below_drewN | apply below_drew1))⟩
    | true =>
    cases b5 with
    | true =>
      go_wp2_with (first | (go_at_call 49; (with_reducible refine (impl_within.calls a0_0 1 64 _ _ HWA.out).mono ?_); rintro e w' ⟨rfl, ⟨nd, rfl⟩⟩) | (go_at_call 49; (with_reducible refine (impl_within.calls a0_1 0 1000000 _ _ HWB.out).mono ?_); rintro e w' ⟨rfl, ⟨nd, rfl⟩⟩) | (go_at_call 50; (try simp only [i64_w]); (with_reducible refine (impl_rising.calls _ A0_2 c0_2 l0_2 0 (wrap64 (a0_0 - 1)) _ _ (Kd.C_below HR2.out (by repeat (first | exact D.out | apply below_alloc | apply pw_below_drewN | apply below_drew1))) hc0_2 HRA.out).mono ?_); rintro e w' ⟨rfl, ⟨nd, rfl⟩⟩) | (go_at_call 50; (try simp only [i64_w]); (with_reducible refine (impl_rising.calls _ Ah ch lh 0 (wrap64 (a0_0 - 1)) _ _ (Kd.C_below HRHC.out (by repeat (first | exact Below.refl _ _ | apply below_alloc | apply pw_below_drewN | apply below_drew1))) HLE.out HRB.out).mono ?_); rintro e w' ⟨rfl, ⟨nd, rfl⟩⟩) | (go_at_call 51; (with_reducible refine (HC1.out lh Ah ch gb _ (by (with_reducible repeat (first | refine blk_drewN ?_ _ | refine blk_drew ?_ | refine blk_alloc ?_ _)); exact BK.out) (Kd.C_below HR2.out (by repeat (first | exact D.out | apply below_alloc | apply pw_below_drewN | apply below_drew1))) (Kd.C_below HRHC.out (by repeat (first | exact Below.refl _ _ | apply below_alloc | apply pw_below_drewN | apply below_drew1)))).mono ?_); rintro e w5 ⟨rfl, hd⟩; (try simp only [HB5.out]); have D5 := Aside0.mk (below_then (show Below w.heap.size w _ from by repeat (first | exact D.out | apply below_alloc | apply pw_below_drewN | apply below_drew1)) (show Below w.heap.size w _ from by repeat (first | exact D.out | apply below_alloc | apply pw_below_drewN | apply below_drew1)).size hd); have BK5 := Aside0.mk (blk_below (by (with_reducible repeat (first | refine blk_drewN ?_ _ | refine blk_drew ?_ | refine blk_alloc ?_ _)); exact BK.out) hd); clear hd; have hcy0 := (blk_cell BK5.out 0).trans rfl; have hcy1 := (blk_cell BK5.out 1).trans rfl; have hcy2 := (blk_cell BK5.out 2).trans rfl; have hcy3 := (blk_cell BK5.out 3).trans rfl; have hcy4 := (blk_cell BK5.out 4).trans rfl))
      go_ret
      exact ⟨by simp, (by repeat (first | exact D5.out | apply below_alloc | apply pw_below_drewN | apply below_drew1))⟩
    | false =>
    cases b6 with
    | true =>
      go_wp2_with (first | (go_at_call 49; (with_reducible refine (impl_within.calls a0_0 1 64 _ _ HWA.out).mono ?_); rintro e w' ⟨rfl, ⟨nd, rfl⟩⟩) | (go_at_call 49; (with_reducible refine (impl_within.calls a0_1 0 1000000 _ _ HWB.out).mono ?_); rintro e w' ⟨rfl, ⟨nd, rfl⟩⟩) | (go_at_call 50; (try simp only [i64_w]); (with_reducible refine (impl_rising.calls _ A0_2 c0_2 l0_2 0 (wrap64 (a0_0 - 1)) _ _ (Kd.C_below HR2.out (by repeat (first | exact D.out | apply below_alloc | apply pw_below_drewN | apply below_drew1))) hc0_2 HRA.out).mono ?_); rintro e w' ⟨rfl, ⟨nd, rfl⟩⟩) | (go_at_call 50; (try simp only [i64_w]); (with_reducible refine (impl_rising.calls _ Ah ch lh 0 (wrap64 (a0_0 - 1)) _ _ (Kd.C_below HRHC.out (by repeat (first | exact Below.refl _ _ | apply below_alloc | apply pw_below_drewN | apply below_drew1))) HLE.out HRB.out).mono ?_); rintro e w' ⟨rfl, ⟨nd, rfl⟩⟩) | (go_at_call 51; (with_reducible refine (HC1.out lh Ah ch gb _ (by (with_reducible repeat (first | refine blk_drewN ?_ _ | refine blk_drew ?_ | refine blk_alloc ?_ _)); exact BK.out) (Kd.C_below HR2.out (by repeat (first | exact D.out | apply below_alloc | apply pw_below_drewN | apply below_drew1))) (Kd.C_below HRHC.out (by repeat (first | exact Below.refl _ _ | apply below_alloc | apply pw_below_drewN | apply below_drew1)))).mono ?_); rintro e w5 ⟨rfl, hd⟩; (try simp only [HB5.out]); have D5 := Aside0.mk (below_then (show Below w.heap.size w _ from by repeat (first | exact D.out | apply below_alloc | apply pw_below_drewN | apply below_drew1)) (show Below w.heap.size w _ from by repeat (first | exact D.out | apply below_alloc | apply pw_below_drewN | apply below_drew1)).size hd); have BK5 := Aside0.mk (blk_below (by (with_reducible repeat (first | refine blk_drewN ?_ _ | refine blk_drew ?_ | refine blk_alloc ?_ _)); exact BK.out) hd); clear hd; have hcy0 := (blk_cell BK5.out 0).trans rfl; have hcy1 := (blk_cell BK5.out 1).trans rfl; have hcy2 := (blk_cell BK5.out 2).trans rfl; have hcy3 := (blk_cell BK5.out 3).trans rfl; have hcy4 := (blk_cell BK5.out 4).trans rfl) | (go_at_call 54; (with_reducible refine (HC2.out gb _ (by (with_reducible repeat (first | refine blk_drewN ?_ _ | refine blk_drew ?_ | refine blk_alloc ?_ _)); exact BK5.out) (Kd.C_below HR3.out (by repeat (first | exact D5.out | apply below_alloc | apply pw_below_drewN | apply below_drew1)))).mono ?_); rintro e w6 ⟨rfl, hd⟩; have D6 := Aside0.mk (below_then (show Below w.heap.size w _ from by repeat (first | exact D5.out | apply below_alloc | apply pw_below_drewN | apply below_drew1)) (show Below w.heap.size w _ from by repeat (first | exact D5.out | apply below_alloc | apply pw_below_drewN | apply below_drew1)).size hd); have BK6 := Aside0.mk (blk_below (by (with_reducible repeat (first | refine blk_drewN ?_ _ | refine blk_drew ?_ | refine blk_alloc ?_ _)); exact BK5.out) hd); clear hd; have hcx0 := (blk_cell BK6.out 0).trans rfl; have hcx1 := (blk_cell BK6.out 1).trans rfl; have hcx2 := (blk_cell BK6.out 2).trans rfl; have hcx3 := (blk_cell BK6.out 3).trans rfl; have hcx4 := (blk_cell BK6.out 4).trans rfl))
      go_ret
      exact ⟨by simp, (by repeat (first | exact D6.out | apply below_alloc | apply pw_below_drewN | apply below_drew1))⟩
    | false =>
    cases b7 with
    | false =>
      go_wp2_with (first | (go_at_call 49; (with_reducible refine (impl_within.calls a0_0 1 64 _ _ HWA.out).mono ?_); rintro e w' ⟨rfl, ⟨nd, rfl⟩⟩) | (go_at_call 49; (with_reducible refine (impl_within.calls a0_1 0 1000000 _ _ HWB.out).mono ?_); rintro e w' ⟨rfl, ⟨nd, rfl⟩⟩) | (go_at_call 50; (try simp only [i64_w]); (with_reducible refine (impl_rising.calls _ A0_2 c0_2 l0_2 0 (wrap64 (a0_0 - 1)) _ _ (Kd.C_below HR2.out (by repeat (first | exact D.out | apply below_alloc | apply pw_below_drewN | apply below_drew1))) hc0_2 HRA.out).mono ?_); rintro e w' ⟨rfl, ⟨nd, rfl⟩⟩) | (go_at_call 50; (try simp only [i64_w]); (with_reducible refine (impl_rising.calls _ Ah ch lh 0 (wrap64 (a0_0 - 1)) _ _ (Kd.C_below HRHC.out (by repeat (first | exact Below.refl _ _ | apply below_alloc | apply pw_below_drewN | apply below_drew1))) HLE.out HRB.out).mono ?_); rintro e w' ⟨rfl, ⟨nd, rfl⟩⟩) | (go_at_call 51; (with_reducible refine (HC1.out lh Ah ch gb _ (by (with_reducible repeat (first | refine blk_drewN ?_ _ | refine blk_drew ?_ | refine blk_alloc ?_ _)); exact BK.out) (Kd.C_below HR2.out (by repeat (first | exact D.out | apply below_alloc | apply pw_below_drewN | apply below_drew1))) (Kd.C_below HRHC.out (by repeat (first | exact Below.refl _ _ | apply below_alloc | apply pw_below_drewN | apply below_drew1)))).mono ?_); rintro e w5 ⟨rfl, hd⟩; (try simp only [HB5.out]); have D5 := Aside0.mk (below_then (show Below w.heap.size w _ from by repeat (first | exact D.out | apply below_alloc | apply pw_below_drewN | apply below_drew1)) (show Below w.heap.size w _ from by repeat (first | exact D.out | apply below_alloc | apply pw_below_drewN | apply below_drew1)).size hd); have BK5 := Aside0.mk (blk_below (by (with_reducible repeat (first | refine blk_drewN ?_ _ | refine blk_drew ?_ | refine blk_alloc ?_ _)); exact BK.out) hd); clear hd; have hcy0 := (blk_cell BK5.out 0).trans rfl; have hcy1 := (blk_cell BK5.out 1).trans rfl; have hcy2 := (blk_cell BK5.out 2).trans rfl; have hcy3 := (blk_cell BK5.out 3).trans rfl; have hcy4 := (blk_cell BK5.out 4).trans rfl) | (go_at_call 54; (with_reducible refine (HC2.out gb _ (by (with_reducible repeat (first | refine blk_drewN ?_ _ | refine blk_drew ?_ | refine blk_alloc ?_ _)); exact BK5.out) (Kd.C_below HR3.out (by repeat (first | exact D5.out | apply below_alloc | apply pw_below_drewN | apply below_drew1)))).mono ?_); rintro e w6 ⟨rfl, hd⟩; have D6 := Aside0.mk (below_then (show Below w.heap.size w _ from by repeat (first | exact D5.out | apply below_alloc | apply pw_below_drewN | apply below_drew1)) (show Below w.heap.size w _ from by repeat (first | exact D5.out | apply below_alloc | apply pw_below_drewN | apply below_drew1)).size hd); have BK6 := Aside0.mk (blk_below (by (with_reducible repeat (first | refine blk_drewN ?_ _ | refine blk_drew ?_ | refine blk_alloc ?_ _)); exact BK5.out) hd); clear hd; have hcx0 := (blk_cell BK6.out 0).trans rfl; have hcx1 := (blk_cell BK6.out 1).trans rfl; have hcx2 := (blk_cell BK6.out 2).trans rfl; have hcx3 := (blk_cell BK6.out 3).trans rfl; have hcx4 := (blk_cell BK6.out 4).trans rfl))
      go_ret
      exact ⟨by simp, (by repeat (first | exact D6.out | apply below_alloc | apply pw_below_drewN | apply below_drew1))⟩
    | true =>
    cases b8 with
    | true =>
      go_wp2_with (first | (go_at_call 49; (with_reducible refine (impl_within.calls a0_0 1 64 _ _ HWA.out).mono ?_); rintro e w' ⟨rfl, ⟨nd, rfl⟩⟩) | (go_at_call 49; (with_reducible refine (impl_within.calls a0_1 0 1000000 _ _ HWB.out).mono ?_); rintro e w' ⟨rfl, ⟨nd, rfl⟩⟩) | (go_at_call 50; (try simp only [i64_w]); (with_reducible refine (impl_rising.calls _ A0_2 c0_2 l0_2 0 (wrap64 (a0_0 - 1)) _ _ (Kd.C_below HR2.out (by repeat (first | exact D.out | apply below_alloc | apply pw_below_drewN | apply below_drew1))) hc0_2 HRA.out).mono ?_); rintro e w' ⟨rfl, ⟨nd, rfl⟩⟩) | (go_at_call 50; (try simp only [i64_w]); (with_reducible refine (impl_rising.calls _ Ah ch lh 0 (wrap64 (a0_0 - 1)) _ _ (Kd.C_below HRHC.out (by repeat (first | exact Below.refl _ _ | apply below_alloc | apply pw_below_drewN | apply below_drew1))) HLE.out HRB.out).mono ?_); rintro e w' ⟨rfl, ⟨nd, rfl⟩⟩) | (go_at_call 51; (with_reducible refine (HC1.out lh Ah ch gb _ (by (with_reducible repeat (first | refine blk_drewN ?_ _ | refine blk_drew ?_ | refine blk_alloc ?_ _)); exact BK.out) (Kd.C_below HR2.out (by repeat (first | exact D.out | apply below_alloc | apply pw_below_drewN | apply below_drew1))) (Kd.C_below HRHC.out (by repeat (first | exact Below.refl _ _ | apply below_alloc | apply pw_below_drewN | apply below_drew1)))).mono ?_); rintro e w5 ⟨rfl, hd⟩; (try simp only [HB5.out]); have D5 := Aside0.mk (below_then (show Below w.heap.size w _ from by repeat (first | exact D.out | apply below_alloc | apply pw_below_drewN | apply below_drew1)) (show Below w.heap.size w _ from by repeat (first | exact D.out | apply below_alloc | apply pw_below_drewN | apply below_drew1)).size hd); have BK5 := Aside0.mk (blk_below (by (with_reducible repeat (first | refine blk_drewN ?_ _ | refine blk_drew ?_ | refine blk_alloc ?_ _)); exact BK.out) hd); clear hd; have hcy0 := (blk_cell BK5.out 0).trans rfl; have hcy1 := (blk_cell BK5.out 1).trans rfl; have hcy2 := (blk_cell BK5.out 2).trans rfl; have hcy3 := (blk_cell BK5.out 3).trans rfl; have hcy4 := (blk_cell BK5.out 4).trans rfl) | (go_at_call 54; (with_reducible refine (HC2.out gb _ (by (with_reducible repeat (first | refine blk_drewN ?_ _ | refine blk_drew ?_ | refine blk_alloc ?_ _)); exact BK5.out) (Kd.C_below HR3.out (by repeat (first | exact D5.out | apply below_alloc | apply pw_below_drewN | apply below_drew1)))).mono ?_); rintro e w6 ⟨rfl, hd⟩; have D6 := Aside0.mk (below_then (show Below w.heap.size w _ from by repeat (first | exact D5.out | apply below_alloc | apply pw_below_drewN | apply below_drew1)) (show Below w.heap.size w _ from by repeat (first | exact D5.out | apply below_alloc | apply pw_below_drewN | apply below_drew1)).size hd); have BK6 := Aside0.mk (blk_below (by (with_reducible repeat (first | refine blk_drewN ?_ _ | refine blk_drew ?_ | refine blk_alloc ?_ _)); exact BK5.out) hd); clear hd; have hcx0 := (blk_cell BK6.out 0).trans rfl; have hcx1 := (blk_cell BK6.out 1).trans rfl; have hcx2 := (blk_cell BK6.out 2).trans rfl; have hcx3 := (blk_cell BK6.out 3).trans rfl; have hcx4 := (blk_cell BK6.out 4).trans rfl) | (go_at_call 51; (with_reducible refine (HC3.out gb _ (by (with_reducible repeat (first | refine blk_drewN ?_ _ | refine blk_drew ?_ | refine blk_alloc ?_ _)); exact BK6.out) (Kd.C_below HR4.out (by repeat (first | exact D6.out | apply below_alloc | apply pw_below_drewN | apply below_drew1)))).mono ?_); rintro e w7 ⟨rfl, hd⟩; have D7 := Aside0.mk (below_then (show Below w.heap.size w _ from by repeat (first | exact D6.out | apply below_alloc | apply pw_below_drewN | apply below_drew1)) (show Below w.heap.size w _ from by repeat (first | exact D6.out | apply below_alloc | apply pw_below_drewN | apply below_drew1)).size hd); clear hd))
      go_ret
      exact ⟨by simp, (by repeat (first | exact D7.out | apply below_alloc | apply pw_below_drewN | apply below_drew1))⟩
    | false =>
      go_wp2_with (first | (go_at_call 49; (with_reducible refine (impl_within.calls a0_0 1 64 _ _ HWA.out).mono ?_); rintro e w' ⟨rfl, ⟨nd, rfl⟩⟩) | (go_at_call 49; (with_reducible refine (impl_within.calls a0_1 0 1000000 _ _ HWB.out).mono ?_); rintro e w' ⟨rfl, ⟨nd, rfl⟩⟩) | (go_at_call 50; (try simp only [i64_w]); (with_reducible refine (impl_rising.calls _ A0_2 c0_2 l0_2 0 (wrap64 (a0_0 - 1)) _ _ (Kd.C_below HR2.out (by repeat (first | exact D.out | apply below_alloc | apply pw_below_drewN | apply below_drew1))) hc0_2 HRA.out).mono ?_); rintro e w' ⟨rfl, ⟨nd, rfl⟩⟩) | (go_at_call 50; (try simp only [i64_w]); (with_reducible refine (impl_rising.calls _ Ah ch lh 0 (wrap64 (a0_0 - 1)) _ _ (Kd.C_below HRHC.out (by repeat (first | exact Below.refl _ _ | apply below_alloc | apply pw_below_drewN | apply below_drew1))) HLE.out HRB.out).mono ?_); rintro e w' ⟨rfl, ⟨nd, rfl⟩⟩) | (go_at_call 51; (with_reducible refine (HC1.out lh Ah ch gb _ (by (with_reducible repeat (first | refine blk_drewN ?_ _ | refine blk_drew ?_ | refine blk_alloc ?_ _)); exact BK.out) (Kd.C_below HR2.out (by repeat (first | exact D.out | apply below_alloc | apply pw_below_drewN | apply below_drew1))) (Kd.C_below HRHC.out (by repeat (first | exact Below.refl _ _ | apply below_alloc | apply pw_below_drewN | apply below_drew1)))).mono ?_); rintro e w5 ⟨rfl, hd⟩; (try simp only [HB5.out]); have D5 := Aside0.mk (below_then (show Below w.heap.size w _ from by repeat (first | exact D.out | apply below_alloc | apply pw_below_drewN | apply below_drew1)) (show Below w.heap.size w _ from by repeat (first | exact D.out | apply below_alloc | apply pw_below_drewN | apply below_drew1)).size hd); have BK5 := Aside0.mk (blk_below (by (with_reducible repeat (first | refine blk_drewN ?_ _ | refine blk_drew ?_ | refine blk_alloc ?_ _)); exact BK.out) hd); clear hd; have hcy0 := (blk_cell BK5.out 0).trans rfl; have hcy1 := (blk_cell BK5.out 1).trans rfl; have hcy2 := (blk_cell BK5.out 2).trans rfl; have hcy3 := (blk_cell BK5.out 3).trans rfl; have hcy4 := (blk_cell BK5.out 4).trans rfl) | (go_at_call 54; (with_reducible refine (HC2.out gb _ (by (with_reducible repeat (first | refine blk_drewN ?_ _ | refine blk_drew ?_ | refine blk_alloc ?_ _)); exact BK5.out) (Kd.C_below HR3.out (by repeat (first | exact D5.out | apply below_alloc | apply pw_below_drewN | apply below_drew1)))).mono ?_); rintro e w6 ⟨rfl, hd⟩; have D6 := Aside0.mk (below_then (show Below w.heap.size w _ from by repeat (first | exact D5.out | apply below_alloc | apply pw_below_drewN | apply below_drew1)) (show Below w.heap.size w _ from by repeat (first | exact D5.out | apply below_alloc | apply pw_below_drewN | apply below_drew1)).size hd); have BK6 := Aside0.mk (blk_below (by (with_reducible repeat (first | refine blk_drewN ?_ _ | refine blk_drew ?_ | refine blk_alloc ?_ _)); exact BK5.out) hd); clear hd; have hcx0 := (blk_cell BK6.out 0).trans rfl; have hcx1 := (blk_cell BK6.out 1).trans rfl; have hcx2 := (blk_cell BK6.out 2).trans rfl; have hcx3 := (blk_cell BK6.out 3).trans rfl; have hcx4 := (blk_cell BK6.out 4).trans rfl) | (go_at_call 51; (with_reducible refine (HC3.out gb _ (by (with_reducible repeat (first | refine blk_drewN ?_ _ | refine blk_drew ?_ | refine blk_alloc ?_ _)); exact BK6.out) (Kd.C_below HR4.out (by repeat (first | exact D6.out | apply below_alloc | apply pw_below_drewN | apply below_drew1)))).mono ?_); rintro e w7 ⟨rfl, hd⟩; have D7 := Aside0.mk (below_then (show Below w.heap.size w _ from by repeat (first | exact D6.out | apply below_alloc | apply pw_below_drewN | apply below_drew1)) (show Below w.heap.size w _ from by repeat (first | exact D6.out | apply below_alloc | apply pw_below_drewN | apply below_drew1)).size hd); clear hd))
      go_ret
      exact ⟨by simp, (by repeat (first | exact D7.out | apply below_alloc | apply pw_below_drewN | apply below_drew1))⟩
  · rw [if_neg hl3] at h
    exact absurd h (by simp)

end Go.Proofs.Ytcnkacbgcmnokaa.XA
