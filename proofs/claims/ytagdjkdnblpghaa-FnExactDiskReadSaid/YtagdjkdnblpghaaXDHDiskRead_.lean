-- Written for this claim: a contract of one function, proved by hand; the places of its template filled by a program.
import Derived.Test.YtagdjkdnblpghaaXD0
import Derived.RangeFuncNested
import Derived.RangeFuncBound
import Derived.RangeFuncCalls
import Derived.RangeFuncLeaves
import Derived.Shelf.Abstract
import Derived.Shelf.RegionOpen
import Derived.WalkKit
import Derived.OwnWalkIn
import Derived.TacticsInMore
import Derived.LoopNIn
import Derived.LoopIn
import Derived.Maps.AppendAt
namespace Go.Proofs.Ytagdjkdnblpghaa.XD
open Go Go.RowKit Go.Proofs.YtagdjkdnblpghaaW.PrintWords Go.Proofs.YtagdjkdnblpghaaW.PrintLast Go.Proofs.YtagdjkdnblpghaaW.PrintMore
set_option linter.unusedVariables false
set_option linter.unusedSimpArgs false
open Go.Proofs.Ytagdjkdnblpghaa.Xtra Go.Shelf
attribute [local go_sem] Oper.semAt_some
abbrev impl_Disk_read.P := S92
/-- What the iterator gives, from the last one on: the place and the write. -/
def impl_Disk_read.nth (l : List impl_Disk_read.P) (k : Nat) : Int × impl_Disk_read.P := ((l.length : Int) - 1 - k, l.getD (l.length - 1 - k) z92)
def impl_Disk_read.back (l : List impl_Disk_read.P) (k : Nat) : List (Int × impl_Disk_read.P) := (List.range k).map (impl_Disk_read.nth l)
theorem impl_Disk_read.back_succ (l : List impl_Disk_read.P) (k : Nat) : impl_Disk_read.back l (k + 1) = impl_Disk_read.back l k ++ [impl_Disk_read.nth l k] := by simp [impl_Disk_read.back, List.range_succ]
theorem impl_Disk_read.back_length (l : List impl_Disk_read.P) (k : Nat) : (impl_Disk_read.back l k).length = k := by simp [impl_Disk_read.back]
def impl_Disk_read.encs (x : Int × impl_Disk_read.P) : Array Value := #[.int .i64 x.1, .agg #[.int .i64 x.2.f0, .string x.2.f1]]
def impl_Disk_read.f (l0 : List ByteArray) (l1 : List impl_Disk_read.P) (at_ : Int) : Option ByteArray :=
  match (impl_Disk_read.back l1 l1.length).find? (fun x => x.2.f0 == at_) with
  | some x => some x.2.f1
  | none => if 0 ≤ at_ then if at_ < (l0.length : Int) then some (rdOf ByteArray.empty l0 at_) else none else none

set_option maxRecDepth 100000 in
set_option maxHeartbeats 4000000 in
/-- The iterator, for every body that keeps what lay. -/
theorem impl_Disk_read.back1_in (F : Fence) (n : Nat) (hf : F.fn 127) (hro : F.round = none) (hn : 1 ≤ n) (lp Bs : Nat) (A : Option Addr) (c : Nat) (l : List impl_Disk_read.P) (W0 : World) (hr : Kd.C k92 W0 A l.length l) (hBs : W0.cell? ⟨Bs, 0, none⟩ = some (.slice A l.length c)) (J Jx : List (Int × impl_Disk_read.P) → World → Prop)
    (hY : ∀ pre x W, J pre W → pre.length < l.length → YieldAt F (n - 1) Try.prog lp (impl_Disk_read.encs x) W fun e W' =>
      (e = .returned (.bool true) ∧ J (pre ++ [x]) W' ∧ Below W0.heap.size W W') ∨ (e = .returned (.bool false) ∧ Jx (pre ++ [x]) W'))
    (W : World) (hW : Below W0.heap.size W0 W) (h0 : J [] W) :
    CallsIn F n Try.prog 127 #[.func (.yield lp) #[] #[], .pointer (some ⟨Bs, 0, none⟩)] W fun e W' => (∃ v, e = .returned v) ∧
      ((∃ ys, ys = impl_Disk_read.back l l.length ∧ J ys W') ∨ (∃ pre, (∃ k, k ≤ l.length ∧ pre = impl_Disk_read.back l k) ∧ Jx pre W')) := by
  have hm : l.length ≤ 9223372036854775807 := hr.2.1
  have hup := Try.underlying92
  refine callsIn_of_wp Try.func127 rfl hf ?_ hro
  simp only [Try.ntmps127, List.size_toArray, List.length_cons, List.length_nil, Nat.reduceAdd, Nat.reduceSub, Array.replicate_succ, Array.replicate_zero, List.push_toArray, List.append_toArray, List.nil_append, List.cons_append]
  have HR := Aside0.mk hr
  clear hr
  have HBS := Aside0.mk hBs
  have hBs' := pw_cell_below hW hBs
  clear hBs
  have HW := Aside0.mk hW
  clear hW
  gi_wp2
  clear hBs'
  gi_loopw [3] (fun i wr => ∃ k : Nat, k ≤ l.length ∧ i = .int .i64 ((l.length : Int) - 1 - k) ∧ Aside0 (J (impl_Disk_read.back l k) wr) ∧ Aside0 (Below W0.heap.size W wr))
    (fun i _ => (intOf i + 1).toNat)
  case atStart => exact ⟨0, Nat.zero_le _, by simp, ⟨h0⟩, ⟨Below.refl _ _⟩⟩
  case round =>
    obtain ⟨k, hk, rfl, HJ, HN⟩ := hrel
    have hD : Below W0.heap.size W0 wr := HW.out.trans HN.out
    have hBs2 := pw_cell_below hD HBS.out
    have hc1 := Kd.C_below HR.out hD
    have HD := Aside0.mk hD
    clear hD
    by_cases hlt : k < l.length
    · obtain ⟨fn, tmps, assign, body, hy, hR⟩ := hY _ (impl_Disk_read.nth l k) wr HJ.out (by rw [impl_Disk_read.back_length]; exact hlt)
      obtain ⟨ad, rfl, hx0, hx1⟩ := at_T92 hc1 ((l.length : Int) - 1 - k) (by omega) (by omega)
      have hnat : ((l.length : Int) - 1 - k).toNat = l.length - 1 - k := by omega
      have hrd : rd_T92 l ((l.length : Int) - 1 - k) = l.getD (l.length - 1 - k) z92 := by
        show l.getD _ _ = _
        rw [hnat]
      rw [hrd, hnat] at hx0 hx1
      have HRR := Aside0.mk hR
      clear hR
      dsimp only [impl_Disk_read.encs, impl_Disk_read.nth] at hy
      generalize hyv : l.getD (l.length - 1 - k) z92 = y at hx0 hx1 hy
      have HYV := Aside0.mk hyv
      clear hyv hrd hc1 hnat
      have h1 : 0 ≤ (l.length : Int) - 1 - k := by omega
      have h2 : (l.length : Int) - 1 - k < (l.length : Int) := by omega
      gi_wp2
      refine HRR.out.mono ?_
      rintro e W3 (⟨rfl, hJ3, hk3⟩ | ⟨rfl, hJx3⟩)
      · have HJ3 := Aside0.mk hJ3
        have HK3 := Aside0.mk hk3
        clear hJ3 hk3
        gi_wp2
        go_roundw
        case rel => exact ⟨k + 1, by omega, by congr 1; omega, ⟨by rw [impl_Disk_read.back_succ]; exact HJ3.out⟩, ⟨HN.out.trans HK3.out⟩⟩
        case measure => simp [intOf]; omega
      · gi_wp2
        refine bodyPost_ret (results_none rfl _ _ _) rfl ?_
        exact ⟨⟨_, rfl⟩, .inr ⟨_, ⟨k + 1, by omega, (impl_Disk_read.back_succ _ _).symm⟩, hJx3⟩⟩
    · obtain rfl : k = l.length := by omega
      clear hc1
      gi_wp2
      go_end0
      exact ⟨⟨_, rfl⟩, .inl ⟨_, rfl, HJ.out⟩⟩
theorem impl_Disk_read.back_in (F : Fence) (n : Nat) (hf : F.fn 108) (hro : F.round = none) (A : Option Addr) (len c : Nat) (w : World) :
    CallsIn F n Try.prog 108 #[.slice A len c] w fun e w' => e = .returned (.func (.func 127) #[] #[.pointer (some ⟨w.heap.size, 0, none⟩)]) ∧ w' = w.alloc (.cells #[.slice A len c] 37) := by
  refine callsIn_of_wp Try.func108 rfl hf ?_ hro
  simp only [Try.ntmps108, List.size_toArray, List.length_cons, List.length_nil, Nat.reduceAdd, Nat.reduceSub, Array.replicate_succ, Array.replicate_zero, List.push_toArray, List.append_toArray, List.nil_append, List.cons_append]
  gi_wp2
  go_ret
  exact ⟨rfl, rfl⟩
theorem impl_Disk_read.stops (F : Fence) (n : Nat) (hf : F.fn 127) (hro : F.round = none) (hn : 1 ≤ n) (Bs : Nat) (A : Option Addr) (c : Nat) (l : List impl_Disk_read.P) (w : World) (hr : Kd.C k92 w A l.length l) (hBs : w.cell? ⟨Bs, 0, none⟩ = some (.slice A l.length c)) :
    SeqStopsK F n Try.prog 127 #[.pointer (some ⟨Bs, 0, none⟩)] impl_Disk_read.encs (Below w.heap.size) (fun ys => ys = impl_Disk_read.back l l.length) (fun pre => ∃ k, k ≤ l.length ∧ pre = impl_Disk_read.back l k) l.length w := fun lp J Jx W hW _ _ hY h0 =>
  impl_Disk_read.back1_in F n hf hro hn lp Bs A c l w hr hBs J Jx hY W hW h0
theorem impl_Disk_read.find_stop (l : List impl_Disk_read.P) (k : Nat) (hk : k ≤ l.length) (p : List (Int × impl_Disk_read.P)) (x : Int × impl_Disk_read.P) (e : p ++ [x] = impl_Disk_read.back l k) (at_ : Int) (hp : ∀ y ∈ p, y.2.f0 ≠ at_) (hx : x.2.f0 = at_) :
    (impl_Disk_read.back l l.length).find? (fun y => y.2.f0 == at_) = some x := by
  have ht : (impl_Disk_read.back l l.length).take k = impl_Disk_read.back l k := by
    unfold impl_Disk_read.back
    rw [← List.map_take, List.take_range, Nat.min_eq_left hk]
  rw [← List.take_append_drop k (impl_Disk_read.back l l.length), ht, ← e, List.find?_append, List.find?_append]
  have h1 : p.find? (fun y => y.2.f0 == at_) = none := by
    rw [List.find?_eq_none]
    intro y hy h
    exact hp y hy (eq_of_beq h)
  have h2 : [x].find? (fun y => y.2.f0 == at_) = some x := by simp [hx]
  rw [h1, h2]
  rfl
theorem impl_Disk_read.find_done (l : List impl_Disk_read.P) (at_ : Int) (hp : ∀ y ∈ impl_Disk_read.back l l.length, y.2.f0 ≠ at_) : (impl_Disk_read.back l l.length).find? (fun y => y.2.f0 == at_) = none := by
  rw [List.find?_eq_none]
  intro y hy h
  exact hp y hy (eq_of_beq h)
theorem impl_Disk_read.blkOwn {β : Type} (B : Nat) (t : TypeId) (cs : Array Value) (fr : Nat × Nat) : Own (fun (_ : β) W => W.heap[B]? = some (.cells cs t fr)) := fun s X Y row hs hg hrow =>
  (hg.block B (blk_lt hs) (fun e => by obtain ⟨o, ho, hc⟩ := hrow B e.symm; rw [hs] at ho; cases ho; cases hc)).trans hs
set_option maxRecDepth 100000 in
set_option maxHeartbeats 4000000 in
theorem impl_Disk_read.read_in (F : Fence) (n : Nat) (hf : F.fn 73) (hfb : F.fn 108) (hfc : F.fn 127) (hro : F.round = none) (hn : 3 ≤ n) (A0 : Option Addr) (c0 : Nat) (l0 : List ByteArray) (A1 : Option Addr) (c1 : Nat) (l1 : List impl_Disk_read.P) (at_ : Int) (r : ByteArray) (w : World)
    (hr0 : Kd.C Kd.string w A0 l0.length l0) (hr1 : Kd.C k92 w A1 l1.length l1) (h : impl_Disk_read.f l0 l1 at_ = some r) :
    CallsIn F n Try.prog 73 #[.agg #[.slice A0 l0.length c0, .slice A1 l1.length c1], .int .i64 at_] w fun e W' => e = .returned (.string r) ∧ Below w.heap.size w W' := by
  have h1 : 1 ≤ n := by omega
  have hud := Try.underlying39
  have hup := Try.underlying92
  refine callsIn_of_wp_marks Try.func73 rfl hf ?_ hro
  simp only [Try.ntmps73, List.size_toArray, List.length_cons, List.length_nil, Nat.reduceAdd, Nat.reduceSub, Array.replicate_succ, Array.replicate_zero, List.push_toArray, List.append_toArray, List.nil_append, List.cons_append]
  have HR0 := Aside0.mk hr0
  have HR1 := Aside0.mk hr1
  have HF := Aside0.mk h
  clear hr0 hr1 h
  gi_wp2_with (gi_at_call 108; refine (impl_Disk_read.back_in F (n - 1) hfb hro _ _ _ _).mono ?_; rintro e w' ⟨rfl, rfl⟩)
  have B0 := blk_new w (.cells #[.slice A0 l0.length c0, .slice A1 l1.length c1] 39 (0, 0))
  have B1 := blk_new (w.alloc (.cells #[.slice A0 l0.length c0, .slice A1 l1.length c1] 39 (0, 0))) (.cells #[.int .i64 at_] 3 (0, 0))
  have B2 := blk_new ((w.alloc (.cells #[.slice A0 l0.length c0, .slice A1 l1.length c1] 39 (0, 0))).alloc (.cells #[.int .i64 at_] 3 (0, 0))) (.cells #[.string ⟨#[]⟩] 9 (0, 0))
  have B3 := blk_new (((w.alloc (.cells #[.slice A0 l0.length c0, .slice A1 l1.length c1] 39 (0, 0))).alloc (.cells #[.int .i64 at_] 3 (0, 0))).alloc (.cells #[.string ⟨#[]⟩] 9 (0, 0))) (.cells #[.slice A1 l1.length c1] 37 (0, 0))
  simp only [World.size_alloc] at B1 B2 B3
  have B0' := blk_alloc (blk_alloc (blk_alloc B0 (.cells #[.int .i64 at_] 3 (0, 0))) (.cells #[.string ⟨#[]⟩] 9 (0, 0))) (.cells #[.slice A1 l1.length c1] 37 (0, 0))
  have B1' := blk_alloc (blk_alloc B1 (.cells #[.string ⟨#[]⟩] 9 (0, 0))) (.cells #[.slice A1 l1.length c1] 37 (0, 0))
  have B2' := blk_alloc B2 (.cells #[.slice A1 l1.length c1] 37 (0, 0))
  have hBel : Below w.heap.size w _ := below_alloc (below_alloc (below_alloc (below_alloc (Below.refl w.heap.size w) (.cells #[.slice A0 l0.length c0, .slice A1 l1.length c1] 39 (0, 0))) (.cells #[.int .i64 at_] 3 (0, 0))) (.cells #[.string ⟨#[]⟩] 9 (0, 0))) (.cells #[.slice A1 l1.length c1] 37 (0, 0))
  have hsz : ((((w.alloc (.cells #[.slice A0 l0.length c0, .slice A1 l1.length c1] 39 (0, 0))).alloc (.cells #[.int .i64 at_] 3 (0, 0))).alloc (.cells #[.string ⟨#[]⟩] 9 (0, 0))).alloc (.cells #[.slice A1 l1.length c1] 37 (0, 0))).heap.size = w.heap.size + 4 := by simp
  clear B0 B1 B2
  generalize ((((w.alloc (.cells #[.slice A0 l0.length c0, .slice A1 l1.length c1] 39 (0, 0))).alloc (.cells #[.int .i64 at_] 3 (0, 0))).alloc (.cells #[.string ⟨#[]⟩] 9 (0, 0))).alloc (.cells #[.slice A1 l1.length c1] 37 (0, 0))) = W0 at B0' B1' B2' B3 hBel hsz ⊢
  have hC3 : W0.cell? ⟨w.heap.size + 1 + 1 + 1, 0, none⟩ = some (.slice A1 l1.length c1) := (blk_cell B3 0).trans rfl
  refine wpIn_rangeFunc_ownH hro h1 (gf := 127) (lb := #[.pointer (some ⟨w.heap.size + 1 + 1 + 1, 0, none⟩)]) rfl hfc (enters_of Try.func127 (by kernel_rfl) rfl)
    (impl_Disk_read.stops F (n - 1) hfc hro (by omega) (w.heap.size + 1 + 1 + 1) A1 c1 l1 W0 (Kd.C_below HR1.out hBel) hC3) belowK_t (belowK_b (Nat.le_refl _)) (Below.refl _ _) (fun _ => rfl)
    (fun pre W => (∀ y ∈ pre, y.2.f0 ≠ at_) ∧ Below W0.heap.size W0 W)
    (fun c pre W => (∃ p x, c = .ret ∧ pre = p ++ [x] ∧ (∀ y ∈ p, y.2.f0 ≠ at_) ∧ x.2.f0 = at_ ∧ W.heap[w.heap.size + 1 + 1]? = some (.cells #[.string x.2.f1] 9 (0, 0))) ∧ Below w.heap.size w W)
    (OwnFrom.and (ownFrom_pure _ (fun (pre : List (Int × impl_Disk_read.P)) => ∀ y ∈ pre, y.2.f0 ≠ at_)) (ownFrom_below (Nat.le_refl _) (Nat.le_refl _)))
    (fun c => OwnFrom.and (Own.from (fun s X Y row hs hg hr => by obtain ⟨p, x, e1, e2, e3, e4, e5⟩ := hs; exact ⟨p, x, e1, e2, e3, e4, impl_Disk_read.blkOwn _ _ _ _ () X Y row e5 hg hr⟩) _) (ownFrom_below (Nat.le_refl _) (by omega)))
    ⟨by simp, Below.refl _ _⟩
    (fun x a' W => ∃ Bx, W0.heap.size ≤ Bx ∧ W.heap[Bx]? = some (.cells #[.int .i64 x.2.f0, .string x.2.f1] 92 (0, 0)) ∧ a' = { tmps := #[.agg #[.slice A0 l0.length c0, .slice A1 l1.length c1], .int .i64 at_, .pointer (some ⟨w.heap.size, 0, none⟩), .pointer (some ⟨w.heap.size + 1, 0, none⟩), .pointer (some ⟨w.heap.size + 1 + 1, 0, none⟩), undef, .pointer (some ⟨Bx, 0, none⟩), .pointer (some ⟨w.heap.size, 1, none⟩), .slice A1 l1.length c1, .func (.func 127) #[] #[.pointer (some ⟨w.heap.size + 1 + 1 + 1, 0, none⟩)], .int .i64 x.1, .agg #[.int .i64 x.2.f0, .string x.2.f1], undef, undef, undef, undef, undef, undef, undef, undef, undef, undef, undef], defers := [] })
    (fun x a' => Own.from (fun s X Y row hs hg hr => by obtain ⟨Bx, h1, h2, h3⟩ := hs; exact ⟨Bx, h1, impl_Disk_read.blkOwn _ _ _ _ () X Y row h2 hg hr, h3⟩) _)
    ?assign ?body ?done ?stop
  case assign =>
    rintro lp pre x W K ⟨hp, hB⟩ hK
    dsimp only [impl_Disk_read.encs]
    gi_wp2
    exact hK _ _ ((KeepsOthers.alloc _ _).from _) ((Below.refl W0.heap.size W).alloc hB.size _) ⟨hp, hB.alloc hB.size _⟩ ⟨W.heap.size, hB.size, blk_new W (.cells #[.int .i64 x.2.f0, .string x.2.f1] 92 (0, 0)), rfl⟩
  case body =>
    rintro lp pre x a' W hl ⟨rr, hrr⟩ ⟨hp, hB⟩ ⟨Bx, hBx, hbx, rfl⟩ hlt
    have hb1 := (blk_cell (blk_below B1' hB) 0).trans rfl
    have hb2 := (blk_cell (blk_below B2' hB) 0).trans rfl
    have hf2 := blk_frozen (blk_below B2' hB) 0
    have hx0 := (blk_cell hbx 0).trans rfl
    have hx1 := (blk_cell hbx 1).trans rfl
    have HB := Aside0.mk hB
    have HPP := Aside0.mk hp
    have HRR := Aside0.mk hrr
    clear hB hp hrr
    by_cases e : x.2.f0 = at_
    · have eb : (x.2.f0 == at_) = true := beq_iff_eq.2 e
      have HE := Aside0.mk e
      clear e
      gi_wp2
      exact ⟨(KeepsOthers.setCell _ _ _).from _, ⟨pre, x, rfl, rfl, HPP.out, HE.out, blk_put (blk_below B2' HB.out) 0 _ rfl⟩, (hBel.trans (HB.out.mono (by omega))).setCell (by show w.heap.size ≤ w.heap.size + 1 + 1; omega) _⟩
    · have eb : (x.2.f0 == at_) = false := beq_eq_false_iff_ne.2 e
      have HE := Aside0.mk e
      clear e
      gi_wp2
      exact ⟨(KeepsOthers.refl _).from _, Below.refl _ _, ⟨fun y hy => (List.mem_append.1 hy).elim (HPP.out y) (fun e' => by simp at e'; subst e'; exact HE.out), HB.out⟩⟩
  case done =>
    rintro D ys W hD rfl ⟨hne, hB⟩ hK
    have hf := HF.out
    unfold impl_Disk_read.f at hf
    rw [impl_Disk_read.find_done l1 at_ hne] at hf
    by_cases g0 : 0 ≤ at_
    rotate_left
    · simp only [if_neg g0] at hf
      cases hf
    by_cases g1 : at_ < (l0.length : Int)
    rotate_left
    · simp only [if_pos g0, if_neg g1] at hf
      cases hf
    simp only [if_pos g0, if_pos g1] at hf
    obtain rfl := Option.some.inj hf
    clear hf
    have hb0 := (blk_cell (blk_below B0' hB) 0).trans rfl
    have hb1 := (blk_cell (blk_below B1' hB) 0).trans rfl
    have hb2 := (blk_cell (blk_below B2' hB) 0).trans rfl
    have hf2 := blk_frozen (blk_below B2' hB) 0
    obtain ⟨ad, e2, hx0⟩ := Kd.at_string (Kd.C_below HR0.out (hBel.trans (hB.mono (by omega)))) at_ g0 g1
    cases e2
    generalize hrv : rdOf ByteArray.empty l0 at_ = v at hx0
    have HRV := Aside0.mk hrv
    have HB := Aside0.mk hB
    have HKK := Aside0.mk hK
    clear hrv hB hK hne
    gi_wp2
    have hK' := (KeepsOthers.setCell W ⟨w.heap.size + 1 + 1, 0, none⟩ (.string v)).same D _ HKK.out rfl
    refine ⟨by simp, .inl ⟨_, _, rfl, run_takeDeferred hK', ?_⟩⟩
    have hc5 := cell_kept (World.cell?_setCell_same' W ⟨w.heap.size + 1 + 1, 0, none⟩ (.string v) (by rw [hb2]; rfl)) (grownBy_putObj' _ D (.deferred none)) (fun r e => by cases e; exact ⟨_, hK', rfl⟩)
    refine ⟨.string v, ?_, by rw [HRV.out], ((hBel.trans (HB.out.mono (by omega))).setCell (p := ⟨w.heap.size + 1 + 1, 0, none⟩) (by show w.heap.size ≤ w.heap.size + 1 + 1; omega) _).trans (belowK_b (w := w) (Nat.le_refl _) _ D _ _ (by omega) hK' rfl rfl)⟩
    simp [results, Try.f73, go_sem, hc5]
  case stop =>
    rintro D c pre W hD ⟨k, hk, hpre⟩ ⟨⟨p, x, rfl, rfl, hp, hx, hb2⟩, hB⟩ hK
    have hf := HF.out
    unfold impl_Disk_read.f at hf
    rw [impl_Disk_read.find_stop l1 k hk p x hpre at_ hp hx] at hf
    obtain rfl := Option.some.inj hf
    clear hf
    gi_wp2
    refine ⟨by simp, .inl ⟨_, _, rfl, run_takeDeferred hK, ?_⟩⟩
    have hc5 := cell_kept ((blk_cell hb2 0).trans rfl) (grownBy_putObj' _ D (.deferred none)) (fun r e => by cases e; exact ⟨_, hK, rfl⟩)
    refine ⟨.string x.2.f1, ?_, rfl, hB.trans (belowK_b (w := w) (Nat.le_refl _) W D _ _ (by omega) hK rfl rfl)⟩
    simp [results, Try.f73, go_sem, hc5]
theorem impl_Disk_read.calls (A0_0 : Option Addr) (c0_0 : Nat) (l0_0 : List ByteArray) (A0_1 : Option Addr) (c0_1 : Nat) (l0_1 : List S92) (a1 : Int) (r : ByteArray) (w : World) (hr0_0 : Kd.C Kd.string w A0_0 l0_0.length l0_0) (hc0_0 : l0_0.length ≤ c0_0) (hr0_1 : Kd.C k92 w A0_1 l0_1.length l0_1) (hc0_1 : l0_1.length ≤ c0_1) (h : impl_Disk_read.f l0_0 l0_1 a1 = some r) :
    Calls Try.prog 73 #[.agg #[.slice A0_0 l0_0.length c0_0, .slice A0_1 l0_1.length c0_1], .int .i64 a1] w fun e w' => e = .returned (.string r) ∧ Below w.heap.size w w' := by
  refine (callsIn_wide (n := 3)).1 ?_
  exact impl_Disk_read.read_in _ 3 trivial trivial trivial rfl (Nat.le_refl _) A0_0 c0_0 l0_0 A0_1 c0_1 l0_1 a1 r w hr0_0 hr0_1 h

end Go.Proofs.Ytagdjkdnblpghaa.XD
