-- Written by a program of the session (wip/xprint.py), out of the translation. Lean checks it.
import Derived.Test.YtnljfjicopffbaaXO0
import Derived.Test.YtnljfjicopffbaaXO1
import Derived.Test.YtnljfjicopffbaaXO2
import Derived.Test.YtnljfjicopffbaaXO3
import Derived.Test.YtnljfjicopffbaaXO5
namespace Go.Proofs.Ytnljfjicopffbaa.XO
open Go.RowKit Go.Proofs.YtnljfjicopffbaaW.PrintWords Go.Proofs.YtnljfjicopffbaaW.PrintLast Go.Proofs.YtnljfjicopffbaaW.PrintMore
attribute [local go_sem] max2_int min2_int max_two min_two max_three min_three max_four min_four Go.Proofs.Ytnljfjicopffbaa.Xtra.binOp_gtr Go.Proofs.Ytnljfjicopffbaa.Xtra.binOp_leq Go.Proofs.Ytnljfjicopffbaa.Xtra.binOp_geq   -- for this text's walks alone
set_option linter.unusedVariables false
set_option linter.unusedSimpArgs false

attribute [local go_sem high] eqA27
/-! ### laws_FnOrder: function 6 -/
mutual
def laws_FnOrder.j0 : Nat → List Int → List Int → Bool → Option (Bool)
  | 0, _, _, _ => none
  | k + 1, x0, x1, x25 => if x25 = true then (some true) else ((spec_ValueOf.f k x0).bind fun bt206 => ((spec_ValueOf.f k x1).bind fun bt210 => ((some (([] : List Int) : List Int)).bind fun y214 => (if y214.length + x1.length < 140737488355328 then ((some (y214 ++ x1 : List Int)).bind fun y217 => (if y217.length + x0.length < 140737488355328 then ((spec_ValueOf.f k (y217 ++ x0)).bind fun bt223 => ((impl_CompareValues.f k bt206.1 bt206.2.1 bt206.2.2 bt210.1 bt210.2.1 bt210.2.2).bind fun bt227 => ((impl_CompareValues.f k bt210.1 bt210.2.1 bt210.2.2 bt206.1 bt206.2.1 bt206.2.2).bind fun bt229 => ((impl_CompareValues.f k bt210.1 bt210.2.1 bt210.2.2 bt223.1 bt223.2.1 bt223.2.2).bind fun bt231 => ((impl_CompareValues.f k bt206.1 bt206.2.1 bt206.2.2 bt223.1 bt223.2.1 bt223.2.2).bind fun bt233 => ((spec_CompareValues.f k bt206.1 bt206.2.1 bt206.2.2 bt210.1 bt210.2.1 bt210.2.2).bind fun bt235 => (if bt227.2 = 0 then (if bt229.2 = 0 then (if bt231.2 = 0 then (if bt233.2 = 0 then (if bt227.1 = bt235.1 then (if bt227.1 = (wrap64 (-bt229.1)) then (laws_FnOrder.j1 k bt227.1 bt231.1 bt233.1 ((bt227.1 == 0) != (bt206.1 == bt210.1 && (bt206.2.1 == bt210.2.1 && (bt206.2.2.toList == bt210.2.2.toList))))) else (laws_FnOrder.j1 k bt227.1 bt231.1 bt233.1 true)) else (laws_FnOrder.j1 k bt227.1 bt231.1 bt233.1 true)) else (laws_FnOrder.j1 k bt227.1 bt231.1 bt233.1 true)) else (laws_FnOrder.j1 k bt227.1 bt231.1 bt233.1 true)) else (laws_FnOrder.j1 k bt227.1 bt231.1 bt233.1 true)) else (laws_FnOrder.j1 k bt227.1 bt231.1 bt233.1 true)))))))) else (none))) else (none)))))
def laws_FnOrder.j1 : Nat → Int → Int → Int → Bool → Option (Bool)
  | 0, _, _, _, _ => none
  | k + 1, x8, x12, x14, x98 => if x98 = true then (some false) else (if x8 ≤ 0 then (if x12 ≤ 0 then (some (decide (x14 ≤ 0))) else (some true)) else (some true))
end
def laws_FnOrder.f (k : Nat) (l0 : List Int) (l1 : List Int) : Option (Bool) := if (l0.length : Int) > 1048576 then (laws_FnOrder.j0 k l0 l1 true) else (laws_FnOrder.j0 k l0 l1 (decide ((l1.length : Int) > 1048576)))
theorem laws_FnOrder.mono_l : ∀ k, (∀ y0 y1 y2, LeO (laws_FnOrder.j0 k y0 y1 y2) (laws_FnOrder.j0 (k + 1) y0 y1 y2)) ∧ (∀ y0 y1 y2 y3, LeO (laws_FnOrder.j1 k y0 y1 y2 y3) (laws_FnOrder.j1 (k + 1) y0 y1 y2 y3))
  | 0 => ⟨fun _ _ _ r h => by simp [laws_FnOrder.j0] at h, fun _ _ _ _ r h => by simp [laws_FnOrder.j1] at h⟩
  | k + 1 => by
    obtain ⟨ih0, ih1⟩ := laws_FnOrder.mono_l k
    refine ⟨?_, ?_⟩
    · intro y0 y1 y2
      unfold laws_FnOrder.j0
      repeat' first
      | (with_reducible exact ih0 _ _ _)
      | (with_reducible exact ih1 _ _ _ _)
      | (with_reducible exact impl_CompareValues.mono _ _ _ _ _ _ _)
      | (with_reducible exact spec_CompareValues.mono _ _ _ _ _ _ _)
      | (with_reducible exact spec_ValueOf.mono _ _)
      | (with_reducible exact LeO.refl _)
      | (with_reducible exact LeO.none _)
      | (with_reducible refine LeO.ite ?_ ?_)
      | (with_reducible refine LeO.bind ?_ (fun _ => ?_))
      | exact ih0 _ _ _
      | exact ih1 _ _ _ _
      | exact impl_CompareValues.mono _ _ _ _ _ _ _
      | exact spec_CompareValues.mono _ _ _ _ _ _ _
      | exact spec_ValueOf.mono _ _
      | exact LeO.none _
      | refine LeO.ite ?_ ?_
      | refine LeO.bind ?_ (fun _ => ?_)
    · intro y0 y1 y2 y3
      unfold laws_FnOrder.j1
      repeat' first
      | (with_reducible exact ih0 _ _ _)
      | (with_reducible exact ih1 _ _ _ _)
      | (with_reducible exact impl_CompareValues.mono _ _ _ _ _ _ _)
      | (with_reducible exact spec_CompareValues.mono _ _ _ _ _ _ _)
      | (with_reducible exact spec_ValueOf.mono _ _)
      | (with_reducible exact LeO.refl _)
      | (with_reducible exact LeO.none _)
      | (with_reducible refine LeO.ite ?_ ?_)
      | (with_reducible refine LeO.bind ?_ (fun _ => ?_))
      | exact ih0 _ _ _
      | exact ih1 _ _ _ _
      | exact impl_CompareValues.mono _ _ _ _ _ _ _
      | exact spec_CompareValues.mono _ _ _ _ _ _ _
      | exact spec_ValueOf.mono _ _
      | exact LeO.none _
      | refine LeO.ite ?_ ?_
      | refine LeO.bind ?_ (fun _ => ?_)
theorem laws_FnOrder.mono : ∀ a0 a1 k, LeO (laws_FnOrder.f k a0 a1) (laws_FnOrder.f (k + 1) a0 a1) := by
  intro a0 a1 k
  obtain ⟨ih0, ih1⟩ := laws_FnOrder.mono_l k
  unfold laws_FnOrder.f
  repeat' first
      | (with_reducible exact ih0 _ _ _)
      | (with_reducible exact ih1 _ _ _ _)
      | (with_reducible exact impl_CompareValues.mono _ _ _ _ _ _ _)
      | (with_reducible exact spec_CompareValues.mono _ _ _ _ _ _ _)
      | (with_reducible exact spec_ValueOf.mono _ _)
      | (with_reducible exact LeO.refl _)
      | (with_reducible exact LeO.none _)
      | (with_reducible refine LeO.ite ?_ ?_)
      | (with_reducible refine LeO.bind ?_ (fun _ => ?_))
      | exact ih0 _ _ _
      | exact ih1 _ _ _ _
      | exact impl_CompareValues.mono _ _ _ _ _ _ _
      | exact spec_CompareValues.mono _ _ _ _ _ _ _
      | exact spec_ValueOf.mono _ _
      | exact LeO.none _
      | refine LeO.ite ?_ ?_
      | refine LeO.bind ?_ (fun _ => ?_)
set_option maxHeartbeats 8000000 in
set_option maxRecDepth 100000 in
theorem laws_FnOrder.calls (k : Nat) (A0 : Option Addr) (c0 : Nat) (l0 : List Int) (A1 : Option Addr) (c1 : Nat) (l1 : List Int) (r : Bool) (w : World) (hr0 : Kd.C (Kd.int .u8) w A0 l0.length l0) (hc0 : l0.length ≤ c0) (hr1 : Kd.C (Kd.int .u8) w A1 l1.length l1) (hc1 : l1.length ≤ c1) (h : laws_FnOrder.f k l0 l1 = some r) :
    Calls Try.prog 6 #[.slice A0 l0.length c0, .slice A1 l1.length c1] w fun e w' => e = .returned (.bool r) ∧ Below w.heap.size w w' := by
  have hu27 := Try.underlying27
  have HR0 := Aside0.mk hr0
  have HC0 := Aside0.mk hc0
  clear hr0 hc0
  have HR1 := Aside0.mk hr1
  have HC1 := Aside0.mk hc1
  clear hr1 hc1
  have HB := Aside0.mk (Below.refl w.heap.size w)
  have H : (if (l0.length : Int) > 1048576 then (laws_FnOrder.j0 k l0 l1 true) else (laws_FnOrder.j0 k l0 l1 (decide ((l1.length : Int) > 1048576)))) = some r := h
  clear h
  have HC3 := Aside0.mk H
  clear H
  go_enter Try.func6, Try.ntmps6
  go_upto_region 1 with (fail)
  go_cut [25] (fun v25 wc => ∃ (kq : Nat) (x25_2 : Bool), v25 = .bool x25_2 ∧ Aside0 (laws_FnOrder.j0 kq l0 l1 x25_2 = some r) ∧ Aside0 (kq ≤ k) ∧ Aside0 (Below w.heap.size w wc))
  case first =>
    have H := HC3.out
    clear HC3
    by_cases c4 : (l0.length : Int) > 1048576
    · rw [if_pos c4] at H
      have c4b0 : decide (1048576 < (l0.length : Int)) = true := decide_eq_true c4
      have c4b0h := c4b0
      (try simp only [ByteArray.size_append] at c4b0h)
      have c4b1 : decide (1048576 < l0.length) = true := decide_eq_true (by omega)
      have c4b1h := c4b1
      (try simp only [ByteArray.size_append] at c4b1h)
      clear c4
      (first | rw [c4b0] | (simp only [i64_w, i32_w]; rw [c4b0]) | skip)
      have H' := Aside0.mk H
      clear H
      go_wp2
      go_meet
      case rel => exact ⟨_, (true), (by first | rfl | (simp; done) | (simp [*]; done)), H', ⟨by first | omega | exact Nat.le_refl _⟩, ⟨by repeat (first | (with_reducible first | exact HB.out | apply below_alloc | apply pw_below_drewN | apply below_drew1) | exact HB.out)⟩⟩
    · rw [if_neg c4] at H
      have c4b0 : decide (1048576 < (l0.length : Int)) = false := decide_eq_false c4
      have c4b0h := c4b0
      (try simp only [ByteArray.size_append] at c4b0h)
      have c4b1 : decide (1048576 < l0.length) = false := decide_eq_false (by omega)
      have c4b1h := c4b1
      (try simp only [ByteArray.size_append] at c4b1h)
      clear c4
      (first | rw [c4b0] | (simp only [i64_w, i32_w]; rw [c4b0]) | skip)
      have H' := Aside0.mk H
      clear H
      go_wp2
      go_meet
      case rel => exact ⟨_, (decide ((l1.length : Int) > 1048576)), (by first | rfl | (simp; done) | (simp [*]; done)), H', ⟨by first | omega | exact Nat.le_refl _⟩, ⟨by repeat (first | (with_reducible first | exact HB.out | apply below_alloc | apply pw_below_drewN | apply below_drew1) | exact HB.out)⟩⟩
  case rest =>
    clear HC3
    try clear c1
    try clear p2
    try clear c4
    try clear c4b0
    try clear c4b1
    obtain ⟨kq, x25_2, rfl, HA, HJ2, HB⟩ := hcut
    cases kq with
    | zero => exact absurd HA.out (by simp [laws_FnOrder.j0])
    | succ kj2 =>
      have H := HA.out
      clear HA
      simp only [laws_FnOrder.j0] at H
      by_cases c5 : x25_2 = true
      · subst c5
        have H1 : (some true) = some r := by rw [if_pos rfl] at H; exact H
        clear H
        have H := H1
        clear H1
        obtain rfl := Option.some.inj H
        go_wp2
        go_ret
        exact ⟨by first | rfl | (simp [errW_none, errW_some] <;> rfl) | (simp [*, errW_none, errW_some] <;> rfl), by repeat (first | (with_reducible first | exact HB.out | apply below_alloc | apply pw_below_drewN | apply below_drew1) | exact HB.out)⟩
      · replace c5 := Bool.eq_false_iff.mpr c5
        subst c5
        have H1 : ((spec_ValueOf.f kj2 l0).bind fun bt206 => ((spec_ValueOf.f kj2 l1).bind fun bt210 => ((some (([] : List Int) : List Int)).bind fun y214 => (if y214.length + l1.length < 140737488355328 then ((some (y214 ++ l1 : List Int)).bind fun y217 => (if y217.length + l0.length < 140737488355328 then ((spec_ValueOf.f kj2 (y217 ++ l0)).bind fun bt223 => ((impl_CompareValues.f kj2 bt206.1 bt206.2.1 bt206.2.2 bt210.1 bt210.2.1 bt210.2.2).bind fun bt227 => ((impl_CompareValues.f kj2 bt210.1 bt210.2.1 bt210.2.2 bt206.1 bt206.2.1 bt206.2.2).bind fun bt229 => ((impl_CompareValues.f kj2 bt210.1 bt210.2.1 bt210.2.2 bt223.1 bt223.2.1 bt223.2.2).bind fun bt231 => ((impl_CompareValues.f kj2 bt206.1 bt206.2.1 bt206.2.2 bt223.1 bt223.2.1 bt223.2.2).bind fun bt233 => ((spec_CompareValues.f kj2 bt206.1 bt206.2.1 bt206.2.2 bt210.1 bt210.2.1 bt210.2.2).bind fun bt235 => (if bt227.2 = 0 then (if bt229.2 = 0 then (if bt231.2 = 0 then (if bt233.2 = 0 then (if bt227.1 = bt235.1 then (if bt227.1 = (wrap64 (-bt229.1)) then (laws_FnOrder.j1 kj2 bt227.1 bt231.1 bt233.1 ((bt227.1 == 0) != (bt206.1 == bt210.1 && (bt206.2.1 == bt210.2.1 && (bt206.2.2.toList == bt210.2.2.toList))))) else (laws_FnOrder.j1 kj2 bt227.1 bt231.1 bt233.1 true)) else (laws_FnOrder.j1 kj2 bt227.1 bt231.1 bt233.1 true)) else (laws_FnOrder.j1 kj2 bt227.1 bt231.1 bt233.1 true)) else (laws_FnOrder.j1 kj2 bt227.1 bt231.1 bt233.1 true)) else (laws_FnOrder.j1 kj2 bt227.1 bt231.1 bt233.1 true)) else (laws_FnOrder.j1 kj2 bt227.1 bt231.1 bt233.1 true)))))))) else (none))) else (none))))) = some r := by rw [if_neg (show ¬ (false = true) by decide)] at H; exact H
        clear H
        have H := H1
        clear H1
        replace H := Option.bind_eq_some_iff.mp H
        obtain ⟨⟨t206, t207, t208⟩, A60, H⟩ := H
        replace H : ((spec_ValueOf.f kj2 l1).bind fun bt210 => ((some (([] : List Int) : List Int)).bind fun y214 => (if y214.length + l1.length < 140737488355328 then ((some (y214 ++ l1 : List Int)).bind fun y217 => (if y217.length + l0.length < 140737488355328 then ((spec_ValueOf.f kj2 (y217 ++ l0)).bind fun bt223 => ((impl_CompareValues.f kj2 t206 t207 t208 bt210.1 bt210.2.1 bt210.2.2).bind fun bt227 => ((impl_CompareValues.f kj2 bt210.1 bt210.2.1 bt210.2.2 t206 t207 t208).bind fun bt229 => ((impl_CompareValues.f kj2 bt210.1 bt210.2.1 bt210.2.2 bt223.1 bt223.2.1 bt223.2.2).bind fun bt231 => ((impl_CompareValues.f kj2 t206 t207 t208 bt223.1 bt223.2.1 bt223.2.2).bind fun bt233 => ((spec_CompareValues.f kj2 t206 t207 t208 bt210.1 bt210.2.1 bt210.2.2).bind fun bt235 => (if bt227.2 = 0 then (if bt229.2 = 0 then (if bt231.2 = 0 then (if bt233.2 = 0 then (if bt227.1 = bt235.1 then (if bt227.1 = (wrap64 (-bt229.1)) then (laws_FnOrder.j1 kj2 bt227.1 bt231.1 bt233.1 ((bt227.1 == 0) != (t206 == bt210.1 && (t207 == bt210.2.1 && (t208.toList == bt210.2.2.toList))))) else (laws_FnOrder.j1 kj2 bt227.1 bt231.1 bt233.1 true)) else (laws_FnOrder.j1 kj2 bt227.1 bt231.1 bt233.1 true)) else (laws_FnOrder.j1 kj2 bt227.1 bt231.1 bt233.1 true)) else (laws_FnOrder.j1 kj2 bt227.1 bt231.1 bt233.1 true)) else (laws_FnOrder.j1 kj2 bt227.1 bt231.1 bt233.1 true)) else (laws_FnOrder.j1 kj2 bt227.1 bt231.1 bt233.1 true)))))))) else (none))) else (none)))) = some r := H
        have A6 := Aside0.mk A60
        clear A60
        replace H := Option.bind_eq_some_iff.mp H
        obtain ⟨⟨t210, t211, t212⟩, A70, H⟩ := H
        replace H : ((some (([] : List Int) : List Int)).bind fun y214 => (if y214.length + l1.length < 140737488355328 then ((some (y214 ++ l1 : List Int)).bind fun y217 => (if y217.length + l0.length < 140737488355328 then ((spec_ValueOf.f kj2 (y217 ++ l0)).bind fun bt223 => ((impl_CompareValues.f kj2 t206 t207 t208 t210 t211 t212).bind fun bt227 => ((impl_CompareValues.f kj2 t210 t211 t212 t206 t207 t208).bind fun bt229 => ((impl_CompareValues.f kj2 t210 t211 t212 bt223.1 bt223.2.1 bt223.2.2).bind fun bt231 => ((impl_CompareValues.f kj2 t206 t207 t208 bt223.1 bt223.2.1 bt223.2.2).bind fun bt233 => ((spec_CompareValues.f kj2 t206 t207 t208 t210 t211 t212).bind fun bt235 => (if bt227.2 = 0 then (if bt229.2 = 0 then (if bt231.2 = 0 then (if bt233.2 = 0 then (if bt227.1 = bt235.1 then (if bt227.1 = (wrap64 (-bt229.1)) then (laws_FnOrder.j1 kj2 bt227.1 bt231.1 bt233.1 ((bt227.1 == 0) != (t206 == t210 && (t207 == t211 && (t208.toList == t212.toList))))) else (laws_FnOrder.j1 kj2 bt227.1 bt231.1 bt233.1 true)) else (laws_FnOrder.j1 kj2 bt227.1 bt231.1 bt233.1 true)) else (laws_FnOrder.j1 kj2 bt227.1 bt231.1 bt233.1 true)) else (laws_FnOrder.j1 kj2 bt227.1 bt231.1 bt233.1 true)) else (laws_FnOrder.j1 kj2 bt227.1 bt231.1 bt233.1 true)) else (laws_FnOrder.j1 kj2 bt227.1 bt231.1 bt233.1 true)))))))) else (none))) else (none))) = some r := H
        have A7 := Aside0.mk A70
        clear A70
        obtain ⟨y214, hy214⟩ : ∃ y_ : List Int, y_ = (([] : List Int)) := ⟨_, rfl⟩
        replace H : (if y214.length + l1.length < 140737488355328 then ((some (y214 ++ l1 : List Int)).bind fun y217 => (if y217.length + l0.length < 140737488355328 then ((spec_ValueOf.f kj2 (y217 ++ l0)).bind fun bt223 => ((impl_CompareValues.f kj2 t206 t207 t208 t210 t211 t212).bind fun bt227 => ((impl_CompareValues.f kj2 t210 t211 t212 t206 t207 t208).bind fun bt229 => ((impl_CompareValues.f kj2 t210 t211 t212 bt223.1 bt223.2.1 bt223.2.2).bind fun bt231 => ((impl_CompareValues.f kj2 t206 t207 t208 bt223.1 bt223.2.1 bt223.2.2).bind fun bt233 => ((spec_CompareValues.f kj2 t206 t207 t208 t210 t211 t212).bind fun bt235 => (if bt227.2 = 0 then (if bt229.2 = 0 then (if bt231.2 = 0 then (if bt233.2 = 0 then (if bt227.1 = bt235.1 then (if bt227.1 = (wrap64 (-bt229.1)) then (laws_FnOrder.j1 kj2 bt227.1 bt231.1 bt233.1 ((bt227.1 == 0) != (t206 == t210 && (t207 == t211 && (t208.toList == t212.toList))))) else (laws_FnOrder.j1 kj2 bt227.1 bt231.1 bt233.1 true)) else (laws_FnOrder.j1 kj2 bt227.1 bt231.1 bt233.1 true)) else (laws_FnOrder.j1 kj2 bt227.1 bt231.1 bt233.1 true)) else (laws_FnOrder.j1 kj2 bt227.1 bt231.1 bt233.1 true)) else (laws_FnOrder.j1 kj2 bt227.1 bt231.1 bt233.1 true)) else (laws_FnOrder.j1 kj2 bt227.1 bt231.1 bt233.1 true)))))))) else (none))) else (none)) = some r := by first | (rw [hy214]; with_reducible exact H) | (have H2_ := (Option.bind_some _ _).symm.trans H; rw [hy214]; with_reducible exact H2_) | (have H2_ := (Option.bind_some _ _).symm.trans H; with_reducible exact H2_) | with_reducible exact H | (rw [hy214]; exact H) | exact H
        have Ny214 := Aside0.mk hy214
        clear hy214
        by_cases c8 : y214.length + l1.length < 140737488355328
        · rw [if_pos c8] at H
          have LMc8 := Aside0.mk c8
          clear c8
          obtain ⟨y217, hy217⟩ : ∃ y_ : List Int, y_ = (y214 ++ l1) := ⟨_, rfl⟩
          replace H : (if y217.length + l0.length < 140737488355328 then ((spec_ValueOf.f kj2 (y217 ++ l0)).bind fun bt223 => ((impl_CompareValues.f kj2 t206 t207 t208 t210 t211 t212).bind fun bt227 => ((impl_CompareValues.f kj2 t210 t211 t212 t206 t207 t208).bind fun bt229 => ((impl_CompareValues.f kj2 t210 t211 t212 bt223.1 bt223.2.1 bt223.2.2).bind fun bt231 => ((impl_CompareValues.f kj2 t206 t207 t208 bt223.1 bt223.2.1 bt223.2.2).bind fun bt233 => ((spec_CompareValues.f kj2 t206 t207 t208 t210 t211 t212).bind fun bt235 => (if bt227.2 = 0 then (if bt229.2 = 0 then (if bt231.2 = 0 then (if bt233.2 = 0 then (if bt227.1 = bt235.1 then (if bt227.1 = (wrap64 (-bt229.1)) then (laws_FnOrder.j1 kj2 bt227.1 bt231.1 bt233.1 ((bt227.1 == 0) != (t206 == t210 && (t207 == t211 && (t208.toList == t212.toList))))) else (laws_FnOrder.j1 kj2 bt227.1 bt231.1 bt233.1 true)) else (laws_FnOrder.j1 kj2 bt227.1 bt231.1 bt233.1 true)) else (laws_FnOrder.j1 kj2 bt227.1 bt231.1 bt233.1 true)) else (laws_FnOrder.j1 kj2 bt227.1 bt231.1 bt233.1 true)) else (laws_FnOrder.j1 kj2 bt227.1 bt231.1 bt233.1 true)) else (laws_FnOrder.j1 kj2 bt227.1 bt231.1 bt233.1 true)))))))) else (none)) = some r := by first | (rw [hy217]; with_reducible exact H) | (have H2_ := (Option.bind_some _ _).symm.trans H; rw [hy217]; with_reducible exact H2_) | (have H2_ := (Option.bind_some _ _).symm.trans H; with_reducible exact H2_) | with_reducible exact H | (rw [hy217]; exact H) | exact H
          have Ny217 := Aside0.mk hy217
          clear hy217
          by_cases c9 : y217.length + l0.length < 140737488355328
          · rw [if_pos c9] at H
            have LMc9 := Aside0.mk c9
            clear c9
            obtain ⟨y220, hy220⟩ : ∃ y_ : List Int, y_ = (y217 ++ l0) := ⟨_, rfl⟩
            replace H : ((spec_ValueOf.f kj2 y220).bind fun bt223 => ((impl_CompareValues.f kj2 t206 t207 t208 t210 t211 t212).bind fun bt227 => ((impl_CompareValues.f kj2 t210 t211 t212 t206 t207 t208).bind fun bt229 => ((impl_CompareValues.f kj2 t210 t211 t212 bt223.1 bt223.2.1 bt223.2.2).bind fun bt231 => ((impl_CompareValues.f kj2 t206 t207 t208 bt223.1 bt223.2.1 bt223.2.2).bind fun bt233 => ((spec_CompareValues.f kj2 t206 t207 t208 t210 t211 t212).bind fun bt235 => (if bt227.2 = 0 then (if bt229.2 = 0 then (if bt231.2 = 0 then (if bt233.2 = 0 then (if bt227.1 = bt235.1 then (if bt227.1 = (wrap64 (-bt229.1)) then (laws_FnOrder.j1 kj2 bt227.1 bt231.1 bt233.1 ((bt227.1 == 0) != (t206 == t210 && (t207 == t211 && (t208.toList == t212.toList))))) else (laws_FnOrder.j1 kj2 bt227.1 bt231.1 bt233.1 true)) else (laws_FnOrder.j1 kj2 bt227.1 bt231.1 bt233.1 true)) else (laws_FnOrder.j1 kj2 bt227.1 bt231.1 bt233.1 true)) else (laws_FnOrder.j1 kj2 bt227.1 bt231.1 bt233.1 true)) else (laws_FnOrder.j1 kj2 bt227.1 bt231.1 bt233.1 true)) else (laws_FnOrder.j1 kj2 bt227.1 bt231.1 bt233.1 true)))))))) = some r := by first | (rw [hy220]; with_reducible exact H) | (have H2_ := (Option.bind_some _ _).symm.trans H; rw [hy220]; with_reducible exact H2_) | (have H2_ := (Option.bind_some _ _).symm.trans H; with_reducible exact H2_) | with_reducible exact H | (rw [hy220]; exact H) | exact H
            have Ny220 := Aside0.mk hy220
            clear hy220
            replace H := Option.bind_eq_some_iff.mp H
            obtain ⟨⟨t223, t224, t225⟩, A100, H⟩ := H
            replace H : ((impl_CompareValues.f kj2 t206 t207 t208 t210 t211 t212).bind fun bt227 => ((impl_CompareValues.f kj2 t210 t211 t212 t206 t207 t208).bind fun bt229 => ((impl_CompareValues.f kj2 t210 t211 t212 t223 t224 t225).bind fun bt231 => ((impl_CompareValues.f kj2 t206 t207 t208 t223 t224 t225).bind fun bt233 => ((spec_CompareValues.f kj2 t206 t207 t208 t210 t211 t212).bind fun bt235 => (if bt227.2 = 0 then (if bt229.2 = 0 then (if bt231.2 = 0 then (if bt233.2 = 0 then (if bt227.1 = bt235.1 then (if bt227.1 = (wrap64 (-bt229.1)) then (laws_FnOrder.j1 kj2 bt227.1 bt231.1 bt233.1 ((bt227.1 == 0) != (t206 == t210 && (t207 == t211 && (t208.toList == t212.toList))))) else (laws_FnOrder.j1 kj2 bt227.1 bt231.1 bt233.1 true)) else (laws_FnOrder.j1 kj2 bt227.1 bt231.1 bt233.1 true)) else (laws_FnOrder.j1 kj2 bt227.1 bt231.1 bt233.1 true)) else (laws_FnOrder.j1 kj2 bt227.1 bt231.1 bt233.1 true)) else (laws_FnOrder.j1 kj2 bt227.1 bt231.1 bt233.1 true)) else (laws_FnOrder.j1 kj2 bt227.1 bt231.1 bt233.1 true))))))) = some r := H
            have A10 := Aside0.mk A100
            clear A100
            replace H := Option.bind_eq_some_iff.mp H
            obtain ⟨⟨t227, t228⟩, A110, H⟩ := H
            replace H : ((impl_CompareValues.f kj2 t210 t211 t212 t206 t207 t208).bind fun bt229 => ((impl_CompareValues.f kj2 t210 t211 t212 t223 t224 t225).bind fun bt231 => ((impl_CompareValues.f kj2 t206 t207 t208 t223 t224 t225).bind fun bt233 => ((spec_CompareValues.f kj2 t206 t207 t208 t210 t211 t212).bind fun bt235 => (if t228 = 0 then (if bt229.2 = 0 then (if bt231.2 = 0 then (if bt233.2 = 0 then (if t227 = bt235.1 then (if t227 = (wrap64 (-bt229.1)) then (laws_FnOrder.j1 kj2 t227 bt231.1 bt233.1 ((t227 == 0) != (t206 == t210 && (t207 == t211 && (t208.toList == t212.toList))))) else (laws_FnOrder.j1 kj2 t227 bt231.1 bt233.1 true)) else (laws_FnOrder.j1 kj2 t227 bt231.1 bt233.1 true)) else (laws_FnOrder.j1 kj2 t227 bt231.1 bt233.1 true)) else (laws_FnOrder.j1 kj2 t227 bt231.1 bt233.1 true)) else (laws_FnOrder.j1 kj2 t227 bt231.1 bt233.1 true)) else (laws_FnOrder.j1 kj2 t227 bt231.1 bt233.1 true)))))) = some r := H
            have A11 := Aside0.mk A110
            clear A110
            replace H := Option.bind_eq_some_iff.mp H
            obtain ⟨⟨t229, t230⟩, A120, H⟩ := H
            replace H : ((impl_CompareValues.f kj2 t210 t211 t212 t223 t224 t225).bind fun bt231 => ((impl_CompareValues.f kj2 t206 t207 t208 t223 t224 t225).bind fun bt233 => ((spec_CompareValues.f kj2 t206 t207 t208 t210 t211 t212).bind fun bt235 => (if t228 = 0 then (if t230 = 0 then (if bt231.2 = 0 then (if bt233.2 = 0 then (if t227 = bt235.1 then (if t227 = (wrap64 (-t229)) then (laws_FnOrder.j1 kj2 t227 bt231.1 bt233.1 ((t227 == 0) != (t206 == t210 && (t207 == t211 && (t208.toList == t212.toList))))) else (laws_FnOrder.j1 kj2 t227 bt231.1 bt233.1 true)) else (laws_FnOrder.j1 kj2 t227 bt231.1 bt233.1 true)) else (laws_FnOrder.j1 kj2 t227 bt231.1 bt233.1 true)) else (laws_FnOrder.j1 kj2 t227 bt231.1 bt233.1 true)) else (laws_FnOrder.j1 kj2 t227 bt231.1 bt233.1 true)) else (laws_FnOrder.j1 kj2 t227 bt231.1 bt233.1 true))))) = some r := H
            have A12 := Aside0.mk A120
            clear A120
            replace H := Option.bind_eq_some_iff.mp H
            obtain ⟨⟨t231, t232⟩, A130, H⟩ := H
            replace H : ((impl_CompareValues.f kj2 t206 t207 t208 t223 t224 t225).bind fun bt233 => ((spec_CompareValues.f kj2 t206 t207 t208 t210 t211 t212).bind fun bt235 => (if t228 = 0 then (if t230 = 0 then (if t232 = 0 then (if bt233.2 = 0 then (if t227 = bt235.1 then (if t227 = (wrap64 (-t229)) then (laws_FnOrder.j1 kj2 t227 t231 bt233.1 ((t227 == 0) != (t206 == t210 && (t207 == t211 && (t208.toList == t212.toList))))) else (laws_FnOrder.j1 kj2 t227 t231 bt233.1 true)) else (laws_FnOrder.j1 kj2 t227 t231 bt233.1 true)) else (laws_FnOrder.j1 kj2 t227 t231 bt233.1 true)) else (laws_FnOrder.j1 kj2 t227 t231 bt233.1 true)) else (laws_FnOrder.j1 kj2 t227 t231 bt233.1 true)) else (laws_FnOrder.j1 kj2 t227 t231 bt233.1 true)))) = some r := H
            have A13 := Aside0.mk A130
            clear A130
            replace H := Option.bind_eq_some_iff.mp H
            obtain ⟨⟨t233, t234⟩, A140, H⟩ := H
            replace H : ((spec_CompareValues.f kj2 t206 t207 t208 t210 t211 t212).bind fun bt235 => (if t228 = 0 then (if t230 = 0 then (if t232 = 0 then (if t234 = 0 then (if t227 = bt235.1 then (if t227 = (wrap64 (-t229)) then (laws_FnOrder.j1 kj2 t227 t231 t233 ((t227 == 0) != (t206 == t210 && (t207 == t211 && (t208.toList == t212.toList))))) else (laws_FnOrder.j1 kj2 t227 t231 t233 true)) else (laws_FnOrder.j1 kj2 t227 t231 t233 true)) else (laws_FnOrder.j1 kj2 t227 t231 t233 true)) else (laws_FnOrder.j1 kj2 t227 t231 t233 true)) else (laws_FnOrder.j1 kj2 t227 t231 t233 true)) else (laws_FnOrder.j1 kj2 t227 t231 t233 true))) = some r := H
            have A14 := Aside0.mk A140
            clear A140
            replace H := Option.bind_eq_some_iff.mp H
            obtain ⟨⟨t235, t236⟩, A150, H⟩ := H
            replace H : (if t228 = 0 then (if t230 = 0 then (if t232 = 0 then (if t234 = 0 then (if t227 = t235 then (if t227 = (wrap64 (-t229)) then (laws_FnOrder.j1 kj2 t227 t231 t233 ((t227 == 0) != (t206 == t210 && (t207 == t211 && (t208.toList == t212.toList))))) else (laws_FnOrder.j1 kj2 t227 t231 t233 true)) else (laws_FnOrder.j1 kj2 t227 t231 t233 true)) else (laws_FnOrder.j1 kj2 t227 t231 t233 true)) else (laws_FnOrder.j1 kj2 t227 t231 t233 true)) else (laws_FnOrder.j1 kj2 t227 t231 t233 true)) else (laws_FnOrder.j1 kj2 t227 t231 t233 true)) = some r := H
            have A15 := Aside0.mk A150
            clear A150
            have HC16 := Aside0.mk H
            clear H
            go_upto_region 11 with (first | ((with_reducible refine gate_callee (f := 17) rfl ?_); refine goesL_ (some 27) rfl rfl Try.func17 (by kernel_rfl) rfl #[.slice A0 l0.length c0] rfl (by (try simp only [List.map_toArray, List.map_cons, List.map_nil]); first | done | rfl | (simp only [List.length_drop, List.length_take]; rfl)) ?_; (with_reducible refine (spec_ValueOf.calls kj2 _ _ l0 t206 t207 t208 _ ?side1 ?side2 A6.out).mono ?_); (case side1 => repeat (first | exact (Kd.C_below HR0.out HB.out) | (with_reducible refine Kd.C_alloc ?_ _) | (with_reducible refine Kd.C_drewN ?_ _) | (with_reducible refine Kd.C_drew ?_))); (case side2 => exact HC0.out); rintro e w17 ⟨rfl, hb⟩; refine ⟨_, rfl, ?_⟩; have n0_ := Aside0.mk (below_step (by repeat (first | (with_reducible first | exact HB.out | apply below_alloc | apply pw_below_drewN | apply below_drew1) | exact HB.out)) hb); clear HB; have HB := n0_; clear n0_; (try clear hb); (try clear hb2); (try clear hk); (try clear hi)) | ((with_reducible refine gate_dst (N := 5) rfl ?_); (try (refine gate_guard (by rfl) ?_; dsimp only)); refine box_event ?hg (N := 5) ?hd (cs := #[.int .i64 0, .int .i64 0, .string (⟨#[]⟩ : ByteArray)]) (t := 27) ?hr ?_; (case hd => rfl); (case hg => rfl); (case hr => first | (go_simp; done) | (go_simp; rfl)); intro gb209 hg w18 hbox hb; have n0_ := Aside0.mk (below_step (by repeat (first | (with_reducible first | exact HB.out | apply below_alloc | apply pw_below_drewN | apply below_drew1) | exact HB.out)) hb); have n1_ := Aside0.mk (hbox); have n2_ := Aside0.mk ((by rw [hg]; exact (below_size (by repeat (first | (with_reducible first | exact HB.out | apply below_alloc | apply pw_below_drewN | apply below_drew1) | exact HB.out))) : w.heap.size ≤ gb209)); have n3_ := Aside0.mk ((by rw [hg]; exact (below_size (by repeat (first | (with_reducible first | exact HB.out | apply below_alloc | apply pw_below_drewN | apply below_drew1) | exact HB.out))) : w.heap.size ≤ gb209)); clear HB; have HB := n0_; have BK209 := n1_; have GW209 := n2_; have GE209 := n3_; clear n0_ n1_ n2_ n3_; clear hb hbox hg; have hcz19_0 : w18.cell? ⟨gb209, 0, none⟩ = some (.int .i64 0) := (blk_cell BK209.out 0).trans rfl; have hcz19_1 : w18.cell? ⟨gb209, 1, none⟩ = some (.int .i64 0) := (blk_cell BK209.out 1).trans rfl; have hcz19_2 : w18.cell? ⟨gb209, 2, none⟩ = some (.string (⟨#[]⟩ : ByteArray)) := (blk_cell BK209.out 2).trans rfl; have hfz19_0 := blk_frozen BK209.out 0; have hfz19_1 := blk_frozen BK209.out 1; have hfz19_2 := blk_frozen BK209.out 2) | ((with_reducible refine gate_callee (f := 17) rfl ?_); refine goesL_ (some 29) rfl rfl Try.func17 (by kernel_rfl) rfl #[.slice A1 l1.length c1] rfl (by (try simp only [List.map_toArray, List.map_cons, List.map_nil]); first | done | rfl | (simp only [List.length_drop, List.length_take]; rfl)) ?_; (with_reducible refine (spec_ValueOf.calls kj2 _ _ l1 t210 t211 t212 _ ?side1 ?side2 A7.out).mono ?_); (case side1 => exact Kd.C_below HR1.out (by repeat (first | (with_reducible first | exact HB.out | apply below_alloc | apply pw_below_drewN | apply below_drew1 | refine below_set ?_ GE209.out) | exact HB.out))); (case side2 => exact HC1.out); rintro e w20 ⟨rfl, hb⟩; refine ⟨_, rfl, ?_⟩; have n0_ := Aside0.mk (blk_below (g := gb209) (o := .cells #[.int .i64 t206, .int .i64 t207, .string t208] 27 (0, 0)) (by (with_reducible repeat (first | refine blk_drewN ?_ _ | refine blk_drew ?_ | refine blk_alloc ?_ _)); refine blk_put (cs := #[.int .i64 t206, .int .i64 t207, .string (⟨#[]⟩ : ByteArray)]) ?_ 2 _ rfl; (with_reducible repeat (first | refine blk_drewN ?_ _ | refine blk_drew ?_ | refine blk_alloc ?_ _)); refine blk_put (cs := #[.int .i64 t206, .int .i64 0, .string (⟨#[]⟩ : ByteArray)]) ?_ 1 _ rfl; (with_reducible repeat (first | refine blk_drewN ?_ _ | refine blk_drew ?_ | refine blk_alloc ?_ _)); refine blk_put (cs := #[.int .i64 0, .int .i64 0, .string (⟨#[]⟩ : ByteArray)]) ?_ 0 _ rfl; (with_reducible repeat (first | refine blk_drewN ?_ _ | refine blk_drew ?_ | refine blk_alloc ?_ _)); exact BK209.out) hb); have n1_ := Aside0.mk (below_step (by repeat (first | (with_reducible first | exact HB.out | apply below_alloc | apply pw_below_drewN | apply below_drew1 | refine below_set ?_ GE209.out) | exact HB.out)) hb); clear BK209; clear HB; have BK209 := n0_; have HB := n1_; clear n0_ n1_; (try clear hb); (try clear hb2); (try clear hk); (try clear hi)) | ((with_reducible refine gate_dst (N := 6) rfl ?_); (try (refine gate_guard (by rfl) ?_; dsimp only)); refine box_event ?hg (N := 6) ?hd (cs := #[.int .i64 0, .int .i64 0, .string (⟨#[]⟩ : ByteArray)]) (t := 27) ?hr ?_; (case hd => rfl); (case hg => rfl); (case hr => first | (go_simp; done) | (go_simp; rfl)); intro gb213 hg w21 hbox hb; have n0_ := Aside0.mk (blk_below (g := gb209) (o := .cells #[.int .i64 t206, .int .i64 t207, .string t208] 27 (0, 0)) (by (with_reducible repeat (first | refine blk_drewN ?_ _ | refine blk_drew ?_ | refine blk_alloc ?_ _)); exact BK209.out) hb); have n1_ := Aside0.mk (below_step (by repeat (first | (with_reducible first | exact HB.out | apply below_alloc | apply pw_below_drewN | apply below_drew1 | refine below_set ?_ GE209.out) | exact HB.out)) hb); have n2_ := Aside0.mk (hbox); have n3_ := Aside0.mk ((by rw [hg]; exact (below_size (by repeat (first | (with_reducible first | exact HB.out | apply below_alloc | apply pw_below_drewN | apply below_drew1 | refine below_set ?_ GE209.out) | exact HB.out))) : w.heap.size ≤ gb213)); have n4_ := Aside0.mk ((by rw [hg]; exact (below_size (by repeat (first | (with_reducible first | exact HB.out | apply below_alloc | apply pw_below_drewN | apply below_drew1 | refine below_set ?_ GE209.out) | exact HB.out))) : w.heap.size ≤ gb213)); have n5_ := Aside0.mk ((by rw [hg]; exact Nat.ne_of_lt (blk_lt (g := gb209) (o := .cells #[.int .i64 t206, .int .i64 t207, .string t208] 27 (0, 0)) (by (with_reducible repeat (first | refine blk_drewN ?_ _ | refine blk_drew ?_ | refine blk_alloc ?_ _)); exact BK209.out)) : gb209 ≠ gb213)); have n6_ := Aside0.mk ((by rw [hg]; exact Nat.ne_of_gt (blk_lt (g := gb209) (o := .cells #[.int .i64 t206, .int .i64 t207, .string t208] 27 (0, 0)) (by (with_reducible repeat (first | refine blk_drewN ?_ _ | refine blk_drew ?_ | refine blk_alloc ?_ _)); exact BK209.out)) : gb213 ≠ gb209)); clear BK209; clear HB; have BK209 := n0_; have HB := n1_; have BK213 := n2_; have GW213 := n3_; have GE213 := n4_; have NB209_213 := n5_; have NB213_209 := n6_; clear n0_ n1_ n2_ n3_ n4_ n5_ n6_; clear hb hbox hg; have hnb22 := NB213_209.out; have hnc22 := NB209_213.out; have hcz23_0 : w21.cell? ⟨gb213, 0, none⟩ = some (.int .i64 0) := (blk_cell BK213.out 0).trans rfl; have hcz23_1 : w21.cell? ⟨gb213, 1, none⟩ = some (.int .i64 0) := (blk_cell BK213.out 1).trans rfl; have hcz23_2 : w21.cell? ⟨gb213, 2, none⟩ = some (.string (⟨#[]⟩ : ByteArray)) := (blk_cell BK213.out 2).trans rfl; have hfz23_0 := blk_frozen BK213.out 0; have hfz23_1 := blk_frozen BK213.out 1; have hfz23_2 := blk_frozen BK213.out 2) | ((with_reducible refine gate_dst (N := 30) rfl ?_); (try (refine gate_guard (by rfl) ?_; dsimp only)); refine Kd.R_lit (Kd.int .u8) _ 5 ?hg (N := 30) ?hd (xs := ([] : List Int)) (inner := []) (ok := fun _ => True) (okp := fun _ => True) ?hr ?hp (fun _ hk => hk) trivial (Below.refl _ _) (Nat.le_refl _) (by simp) ?_; (case hd => rfl); (case hg => rfl); (case hr => first | (go_simp; done) | (go_simp; rfl)); (case hp => exact (Reps.none _ _)); intro v215 w24 ho25 hb hg_ hnew_; clear hg_ hnew_; (first | rw [← Ny214.out] at ho25 | (simp only [Int.reduceToNat] at ho25; rw [← Ny214.out] at ho25)); have n0_ := Aside0.mk (Kd.R_lower ho25 (below_size (by repeat (first | (with_reducible first | exact HB.out | apply below_alloc | apply pw_below_drewN | apply below_drew1 | refine below_set ?_ GE209.out | refine below_set ?_ GE213.out) | exact HB.out)))); have n1_ := Aside0.mk (blk_below (g := gb209) (o := .cells #[.int .i64 t206, .int .i64 t207, .string t208] 27 (0, 0)) (by (with_reducible repeat (first | refine blk_drewN ?_ _ | refine blk_drew ?_ | refine blk_alloc ?_ _)); refine blk_far ?_ NB209_213.out _; (with_reducible repeat (first | refine blk_drewN ?_ _ | refine blk_drew ?_ | refine blk_alloc ?_ _)); refine blk_far ?_ NB209_213.out _; (with_reducible repeat (first | refine blk_drewN ?_ _ | refine blk_drew ?_ | refine blk_alloc ?_ _)); refine blk_far ?_ NB209_213.out _; (with_reducible repeat (first | refine blk_drewN ?_ _ | refine blk_drew ?_ | refine blk_alloc ?_ _)); exact BK209.out) hb); have n2_ := Aside0.mk (blk_below (g := gb213) (o := .cells #[.int .i64 t210, .int .i64 t211, .string t212] 27 (0, 0)) (by (with_reducible repeat (first | refine blk_drewN ?_ _ | refine blk_drew ?_ | refine blk_alloc ?_ _)); refine blk_put (cs := #[.int .i64 t210, .int .i64 t211, .string (⟨#[]⟩ : ByteArray)]) ?_ 2 _ rfl; (with_reducible repeat (first | refine blk_drewN ?_ _ | refine blk_drew ?_ | refine blk_alloc ?_ _)); refine blk_put (cs := #[.int .i64 t210, .int .i64 0, .string (⟨#[]⟩ : ByteArray)]) ?_ 1 _ rfl; (with_reducible repeat (first | refine blk_drewN ?_ _ | refine blk_drew ?_ | refine blk_alloc ?_ _)); refine blk_put (cs := #[.int .i64 0, .int .i64 0, .string (⟨#[]⟩ : ByteArray)]) ?_ 0 _ rfl; (with_reducible repeat (first | refine blk_drewN ?_ _ | refine blk_drew ?_ | refine blk_alloc ?_ _)); exact BK213.out) hb); have n3_ := Aside0.mk (below_step (by repeat (first | (with_reducible first | exact HB.out | apply below_alloc | apply pw_below_drewN | apply below_drew1 | refine below_set ?_ GE209.out | refine below_set ?_ GE213.out) | exact HB.out)) hb); clear BK209; clear BK213; clear HB; have HO216 := n0_; have BK209 := n1_; have BK213 := n2_; have HB := n3_; clear n0_ n1_ n2_ n3_; clear hb ho25) | ((with_reducible refine gate_builtin (b := .append) (xs := #[.tmp 30, .tmp 31]) rfl ?_); (try (refine gate_guard (by rfl) ?_; dsimp only)); at_builtin; refine Kd.R_append_rows (Kd.int .u8) (w0 := w) w.heap.size rfl (.tmp 30) (.tmp 31) 33 5 (.int .u8 0) 1 rfl Try.underlying33 info5 rfl (by decide) (by omega) v215 y214 l1 _ _ _ (fun _ => True) (fun _ => False) rfl rfl ?aO ?aR (fun _ _ h => h) (fun _ h => h.elim) ?aF ?aB ?aS ?aL ?_; (case aR => repeat (first | exact (Kd.C_below HR1.out HB.out) | (with_reducible refine Kd.C_alloc ?_ _) | (with_reducible refine Kd.C_drewN ?_ _) | (with_reducible refine Kd.C_drew ?_))); (case aB => exact (by repeat (first | (with_reducible first | exact HB.out | apply below_alloc | apply pw_below_drewN | apply below_drew1 | refine below_set ?_ GE209.out | refine below_set ?_ GE213.out) | exact HB.out))); (case aF => exact (fun _ _ => trivial)); (case aO => exact (by (with_reducible repeat (first | apply Kd.R_alloc | apply Kd.R_drewN | apply Kd.R_drew)); exact HO216.out)); (case aS => exact (below_size (by repeat (first | (with_reducible first | exact HB.out | apply below_alloc | apply pw_below_drewN | apply below_drew1 | refine below_set ?_ GE209.out | refine below_set ?_ GE213.out) | exact HB.out)))); (case aL => have := LMc8.out; omega); intro v218 w26 ho hb hg hat; rw [← Ny217.out] at ho; have n0_ := Aside0.mk (blk_grown (g := gb209) (o := .cells #[.int .i64 t206, .int .i64 t207, .string t208] 27 (0, 0)) (by (with_reducible repeat (first | refine blk_drewN ?_ _ | refine blk_drew ?_ | refine blk_alloc ?_ _)); exact BK209.out) hg (Kd.R_ne HO216.out BK209.out (by decide))); have n1_ := Aside0.mk (blk_grown (g := gb213) (o := .cells #[.int .i64 t210, .int .i64 t211, .string t212] 27 (0, 0)) (by (with_reducible repeat (first | refine blk_drewN ?_ _ | refine blk_drew ?_ | refine blk_alloc ?_ _)); exact BK213.out) hg (Kd.R_ne HO216.out BK213.out (by decide))); have n2_ := Aside0.mk (hb); have n3_ := Aside0.mk (ho); clear BK209; clear BK213; clear HB; clear HO216; have BK209 := n0_; have BK213 := n1_; have HB := n2_; have HO219 := n3_; clear n0_ n1_ n2_ n3_; clear ho hb hg hat) | ((with_reducible refine gate_builtin (b := .append) (xs := #[.tmp 32, .tmp 33]) rfl ?_); (try (refine gate_guard (by rfl) ?_; dsimp only)); at_builtin; refine Kd.R_append_rows (Kd.int .u8) (w0 := w) w.heap.size rfl (.tmp 32) (.tmp 33) 33 5 (.int .u8 0) 1 rfl Try.underlying33 info5 rfl (by decide) (by omega) v218 y217 l0 _ _ _ (fun _ => True) (fun _ => False) rfl rfl ?aO ?aR (fun _ _ h => h) (fun _ h => h.elim) ?aF ?aB ?aS ?aL ?_; (case aR => repeat (first | exact (Kd.C_below HR0.out HB.out) | (with_reducible refine Kd.C_alloc ?_ _) | (with_reducible refine Kd.C_drewN ?_ _) | (with_reducible refine Kd.C_drew ?_))); (case aB => exact (by repeat (first | (with_reducible first | exact HB.out | apply below_alloc | apply pw_below_drewN | apply below_drew1 | refine below_set ?_ GE209.out | refine below_set ?_ GE213.out) | exact HB.out))); (case aF => exact (fun _ _ => trivial)); (case aO => exact (by (with_reducible repeat (first | apply Kd.R_alloc | apply Kd.R_drewN | apply Kd.R_drew)); exact HO219.out)); (case aS => exact (below_size (by repeat (first | (with_reducible first | exact HB.out | apply below_alloc | apply pw_below_drewN | apply below_drew1 | refine below_set ?_ GE209.out | refine below_set ?_ GE213.out) | exact HB.out)))); (case aL => have := LMc9.out; omega); intro v221 w27 ho hb hg hat; rw [← Ny220.out] at ho; have n0_ := Aside0.mk (blk_grown (g := gb209) (o := .cells #[.int .i64 t206, .int .i64 t207, .string t208] 27 (0, 0)) (by (with_reducible repeat (first | refine blk_drewN ?_ _ | refine blk_drew ?_ | refine blk_alloc ?_ _)); exact BK209.out) hg (Kd.R_ne HO219.out BK209.out (by decide))); have n1_ := Aside0.mk (blk_grown (g := gb213) (o := .cells #[.int .i64 t210, .int .i64 t211, .string t212] 27 (0, 0)) (by (with_reducible repeat (first | refine blk_drewN ?_ _ | refine blk_drew ?_ | refine blk_alloc ?_ _)); exact BK213.out) hg (Kd.R_ne HO219.out BK213.out (by decide))); have n2_ := Aside0.mk (hb); have n3_ := Aside0.mk (ho); clear BK209; clear BK213; clear HB; clear HO219; have BK209 := n0_; have BK213 := n1_; have HB := n2_; have HO222 := n3_; clear n0_ n1_ n2_ n3_; clear ho hb hg hat; obtain ⟨Ao28, co28, eo28⟩ := Kd.R_slice HO222.out; subst eo28) | ((with_reducible refine gate_callee (f := 17) rfl ?_); refine goesL_ (some 35) rfl rfl Try.func17 (by kernel_rfl) rfl #[.slice Ao28 y220.length co28] rfl (by (try simp only [List.map_toArray, List.map_cons, List.map_nil]); first | done | rfl | (simp only [List.length_drop, List.length_take]; rfl)) ?_; (with_reducible refine (spec_ValueOf.calls kj2 _ _ y220 t223 t224 t225 _ ?side1 ?side2 A10.out).mono ?_); (case side1 => repeat (first | exact (Kd.R_reads' HO222.out).2.2 | (with_reducible refine Kd.C_alloc ?_ _) | (with_reducible refine Kd.C_drewN ?_ _) | (with_reducible refine Kd.C_drew ?_))); (case side2 => exact (Kd.R_reads' HO222.out).2.1); rintro e w29 ⟨rfl, hb⟩; refine ⟨_, rfl, ?_⟩; have n0_ := Aside0.mk (Kd.R_below (by (with_reducible repeat (first | apply Kd.R_alloc | apply Kd.R_drewN | apply Kd.R_drew)); exact HO222.out) hb); have n1_ := Aside0.mk (blk_below (g := gb209) (o := .cells #[.int .i64 t206, .int .i64 t207, .string t208] 27 (0, 0)) (by (with_reducible repeat (first | refine blk_drewN ?_ _ | refine blk_drew ?_ | refine blk_alloc ?_ _)); exact BK209.out) hb); have n2_ := Aside0.mk (blk_below (g := gb213) (o := .cells #[.int .i64 t210, .int .i64 t211, .string t212] 27 (0, 0)) (by (with_reducible repeat (first | refine blk_drewN ?_ _ | refine blk_drew ?_ | refine blk_alloc ?_ _)); exact BK213.out) hb); have n3_ := Aside0.mk (below_step (by repeat (first | (with_reducible first | exact HB.out | apply below_alloc | apply pw_below_drewN | apply below_drew1 | refine below_set ?_ GE209.out | refine below_set ?_ GE213.out) | exact HB.out)) hb); clear HO222; clear BK209; clear BK213; clear HB; have HO222 := n0_; have BK209 := n1_; have BK213 := n2_; have HB := n3_; clear n0_ n1_ n2_ n3_; (try clear hb); (try clear hb2); (try clear hk); (try clear hi)) | ((with_reducible refine gate_dst (N := 7) rfl ?_); (try (refine gate_guard (by rfl) ?_; dsimp only)); refine box_event ?hg (N := 7) ?hd (cs := #[.int .i64 0, .int .i64 0, .string (⟨#[]⟩ : ByteArray)]) (t := 27) ?hr ?_; (case hd => rfl); (case hg => rfl); (case hr => first | (go_simp; done) | (go_simp; rfl)); intro gb226 hg w30 hbox hb; have n0_ := Aside0.mk (Kd.R_below (by (with_reducible repeat (first | apply Kd.R_alloc | apply Kd.R_drewN | apply Kd.R_drew)); exact HO222.out) hb); have n1_ := Aside0.mk (blk_below (g := gb209) (o := .cells #[.int .i64 t206, .int .i64 t207, .string t208] 27 (0, 0)) (by (with_reducible repeat (first | refine blk_drewN ?_ _ | refine blk_drew ?_ | refine blk_alloc ?_ _)); exact BK209.out) hb); have n2_ := Aside0.mk (blk_below (g := gb213) (o := .cells #[.int .i64 t210, .int .i64 t211, .string t212] 27 (0, 0)) (by (with_reducible repeat (first | refine blk_drewN ?_ _ | refine blk_drew ?_ | refine blk_alloc ?_ _)); exact BK213.out) hb); have n3_ := Aside0.mk (below_step (by repeat (first | (with_reducible first | exact HB.out | apply below_alloc | apply pw_below_drewN | apply below_drew1 | refine below_set ?_ GE209.out | refine below_set ?_ GE213.out) | exact HB.out)) hb); have n4_ := Aside0.mk (hbox); have n5_ := Aside0.mk ((by rw [hg]; exact (below_size (by repeat (first | (with_reducible first | exact HB.out | apply below_alloc | apply pw_below_drewN | apply below_drew1 | refine below_set ?_ GE209.out | refine below_set ?_ GE213.out) | exact HB.out))) : w.heap.size ≤ gb226)); have n6_ := Aside0.mk ((by rw [hg]; exact (below_size (by repeat (first | (with_reducible first | exact HB.out | apply below_alloc | apply pw_below_drewN | apply below_drew1 | refine below_set ?_ GE209.out | refine below_set ?_ GE213.out) | exact HB.out))) : w.heap.size ≤ gb226)); have n7_ := Aside0.mk ((by rw [hg]; exact Nat.ne_of_lt (blk_lt (g := gb209) (o := .cells #[.int .i64 t206, .int .i64 t207, .string t208] 27 (0, 0)) (by (with_reducible repeat (first | refine blk_drewN ?_ _ | refine blk_drew ?_ | refine blk_alloc ?_ _)); exact BK209.out)) : gb209 ≠ gb226)); have n8_ := Aside0.mk ((by rw [hg]; exact Nat.ne_of_gt (blk_lt (g := gb209) (o := .cells #[.int .i64 t206, .int .i64 t207, .string t208] 27 (0, 0)) (by (with_reducible repeat (first | refine blk_drewN ?_ _ | refine blk_drew ?_ | refine blk_alloc ?_ _)); exact BK209.out)) : gb226 ≠ gb209)); have n9_ := Aside0.mk ((by rw [hg]; exact Nat.ne_of_lt (blk_lt (g := gb213) (o := .cells #[.int .i64 t210, .int .i64 t211, .string t212] 27 (0, 0)) (by (with_reducible repeat (first | refine blk_drewN ?_ _ | refine blk_drew ?_ | refine blk_alloc ?_ _)); exact BK213.out)) : gb213 ≠ gb226)); have n10_ := Aside0.mk ((by rw [hg]; exact Nat.ne_of_gt (blk_lt (g := gb213) (o := .cells #[.int .i64 t210, .int .i64 t211, .string t212] 27 (0, 0)) (by (with_reducible repeat (first | refine blk_drewN ?_ _ | refine blk_drew ?_ | refine blk_alloc ?_ _)); exact BK213.out)) : gb226 ≠ gb213)); clear HO222; clear BK209; clear BK213; clear HB; have HO222 := n0_; have BK209 := n1_; have BK213 := n2_; have HB := n3_; have BK226 := n4_; have GW226 := n5_; have GE226 := n6_; have NB209_226 := n7_; have NB226_209 := n8_; have NB213_226 := n9_; have NB226_213 := n10_; clear n0_ n1_ n2_ n3_ n4_ n5_ n6_ n7_ n8_ n9_ n10_; clear hb hbox hg; have hnb31 := NB226_209.out; have hnc31 := NB209_226.out; have hnb32 := NB226_213.out; have hnc32 := NB213_226.out; have hcz33_0 : w30.cell? ⟨gb226, 0, none⟩ = some (.int .i64 0) := (blk_cell BK226.out 0).trans rfl; have hcz33_1 : w30.cell? ⟨gb226, 1, none⟩ = some (.int .i64 0) := (blk_cell BK226.out 1).trans rfl; have hcz33_2 : w30.cell? ⟨gb226, 2, none⟩ = some (.string (⟨#[]⟩ : ByteArray)) := (blk_cell BK226.out 2).trans rfl; have hfz33_0 := blk_frozen BK226.out 0; have hfz33_1 := blk_frozen BK226.out 1; have hfz33_2 := blk_frozen BK226.out 2; have hcz34_0 : w30.cell? ⟨gb209, 0, none⟩ = some (.int .i64 t206) := (blk_cell BK209.out 0).trans rfl; have hcz34_1 : w30.cell? ⟨gb209, 1, none⟩ = some (.int .i64 t207) := (blk_cell BK209.out 1).trans rfl; have hcz34_2 : w30.cell? ⟨gb209, 2, none⟩ = some (.string t208) := (blk_cell BK209.out 2).trans rfl; have hfz34_0 := blk_frozen BK209.out 0; have hfz34_1 := blk_frozen BK209.out 1; have hfz34_2 := blk_frozen BK209.out 2; have hcz35_0 : w30.cell? ⟨gb213, 0, none⟩ = some (.int .i64 t210) := (blk_cell BK213.out 0).trans rfl; have hcz35_1 : w30.cell? ⟨gb213, 1, none⟩ = some (.int .i64 t211) := (blk_cell BK213.out 1).trans rfl; have hcz35_2 : w30.cell? ⟨gb213, 2, none⟩ = some (.string t212) := (blk_cell BK213.out 2).trans rfl; have hfz35_0 := blk_frozen BK213.out 0; have hfz35_1 := blk_frozen BK213.out 1; have hfz35_2 := blk_frozen BK213.out 2) | ((with_reducible refine gate_callee (f := 16) rfl ?_); refine goesL_ (some 39) rfl rfl Try.func16 (by kernel_rfl) rfl #[.agg #[.int .i64 t206, .int .i64 t207, .string t208], .agg #[.int .i64 t210, .int .i64 t211, .string t212]] rfl (by (try simp only [List.map_toArray, List.map_cons, List.map_nil]); first | done | rfl | (simp only [List.length_drop, List.length_take]; rfl)) ?_; (with_reducible refine (impl_CompareValues.calls kj2 t206 t207 t208 t210 t211 t212 t227 t228 _ A11.out).mono ?_); rintro e w36 ⟨rfl, hb⟩; refine ⟨_, rfl, ?_⟩; have n0_ := Aside0.mk (Kd.R_below (by (with_reducible repeat (first | apply Kd.R_alloc | apply Kd.R_drewN | apply Kd.R_drew)); exact (Kd.R_mono (Kd.R_far (p := ⟨gb226, 2, none⟩) (Kd.R_far (p := ⟨gb226, 1, none⟩) (Kd.R_far (p := ⟨gb226, 0, none⟩) (Kd.R_types HO222.out BK226.out (by decide)) (fun _ hk => hk.2) (.int .i64 t223)) (fun _ hk => hk.2) (.int .i64 t224)) (fun _ hk => hk.2) (.string t225)) (fun _ h_ => h_.1))) hb); have n1_ := Aside0.mk (blk_below (g := gb209) (o := .cells #[.int .i64 t206, .int .i64 t207, .string t208] 27 (0, 0)) (by (with_reducible repeat (first | refine blk_drewN ?_ _ | refine blk_drew ?_ | refine blk_alloc ?_ _)); refine blk_far ?_ NB209_226.out _; (with_reducible repeat (first | refine blk_drewN ?_ _ | refine blk_drew ?_ | refine blk_alloc ?_ _)); refine blk_far ?_ NB209_226.out _; (with_reducible repeat (first | refine blk_drewN ?_ _ | refine blk_drew ?_ | refine blk_alloc ?_ _)); refine blk_far ?_ NB209_226.out _; (with_reducible repeat (first | refine blk_drewN ?_ _ | refine blk_drew ?_ | refine blk_alloc ?_ _)); exact BK209.out) hb); have n2_ := Aside0.mk (blk_below (g := gb213) (o := .cells #[.int .i64 t210, .int .i64 t211, .string t212] 27 (0, 0)) (by (with_reducible repeat (first | refine blk_drewN ?_ _ | refine blk_drew ?_ | refine blk_alloc ?_ _)); refine blk_far ?_ NB213_226.out _; (with_reducible repeat (first | refine blk_drewN ?_ _ | refine blk_drew ?_ | refine blk_alloc ?_ _)); refine blk_far ?_ NB213_226.out _; (with_reducible repeat (first | refine blk_drewN ?_ _ | refine blk_drew ?_ | refine blk_alloc ?_ _)); refine blk_far ?_ NB213_226.out _; (with_reducible repeat (first | refine blk_drewN ?_ _ | refine blk_drew ?_ | refine blk_alloc ?_ _)); exact BK213.out) hb); have n3_ := Aside0.mk (blk_below (g := gb226) (o := .cells #[.int .i64 t223, .int .i64 t224, .string t225] 27 (0, 0)) (by (with_reducible repeat (first | refine blk_drewN ?_ _ | refine blk_drew ?_ | refine blk_alloc ?_ _)); refine blk_put (cs := #[.int .i64 t223, .int .i64 t224, .string (⟨#[]⟩ : ByteArray)]) ?_ 2 _ rfl; (with_reducible repeat (first | refine blk_drewN ?_ _ | refine blk_drew ?_ | refine blk_alloc ?_ _)); refine blk_put (cs := #[.int .i64 t223, .int .i64 0, .string (⟨#[]⟩ : ByteArray)]) ?_ 1 _ rfl; (with_reducible repeat (first | refine blk_drewN ?_ _ | refine blk_drew ?_ | refine blk_alloc ?_ _)); refine blk_put (cs := #[.int .i64 0, .int .i64 0, .string (⟨#[]⟩ : ByteArray)]) ?_ 0 _ rfl; (with_reducible repeat (first | refine blk_drewN ?_ _ | refine blk_drew ?_ | refine blk_alloc ?_ _)); exact BK226.out) hb); have n4_ := Aside0.mk (below_step (by repeat (first | (with_reducible first | exact HB.out | apply below_alloc | apply pw_below_drewN | apply below_drew1 | refine below_set ?_ GE209.out | refine below_set ?_ GE213.out | refine below_set ?_ GE226.out) | exact HB.out)) hb); clear HO222; clear BK209; clear BK213; clear BK226; clear HB; have HO222 := n0_; have BK209 := n1_; have BK213 := n2_; have BK226 := n3_; have HB := n4_; clear n0_ n1_ n2_ n3_ n4_; (try clear hb); (try clear hb2); (try clear hk); (try clear hi); have hcz37_0 : w36.cell? ⟨gb213, 0, none⟩ = some (.int .i64 t210) := (blk_cell BK213.out 0).trans rfl; have hcz37_1 : w36.cell? ⟨gb213, 1, none⟩ = some (.int .i64 t211) := (blk_cell BK213.out 1).trans rfl; have hcz37_2 : w36.cell? ⟨gb213, 2, none⟩ = some (.string t212) := (blk_cell BK213.out 2).trans rfl; have hfz37_0 := blk_frozen BK213.out 0; have hfz37_1 := blk_frozen BK213.out 1; have hfz37_2 := blk_frozen BK213.out 2; have hcz38_0 : w36.cell? ⟨gb209, 0, none⟩ = some (.int .i64 t206) := (blk_cell BK209.out 0).trans rfl; have hcz38_1 : w36.cell? ⟨gb209, 1, none⟩ = some (.int .i64 t207) := (blk_cell BK209.out 1).trans rfl; have hcz38_2 : w36.cell? ⟨gb209, 2, none⟩ = some (.string t208) := (blk_cell BK209.out 2).trans rfl; have hfz38_0 := blk_frozen BK209.out 0; have hfz38_1 := blk_frozen BK209.out 1; have hfz38_2 := blk_frozen BK209.out 2) | ((with_reducible refine gate_callee (f := 16) rfl ?_); refine goesL_ (some 45) rfl rfl Try.func16 (by kernel_rfl) rfl #[.agg #[.int .i64 t210, .int .i64 t211, .string t212], .agg #[.int .i64 t206, .int .i64 t207, .string t208]] rfl (by (try simp only [List.map_toArray, List.map_cons, List.map_nil]); first | done | rfl | (simp only [List.length_drop, List.length_take]; rfl)) ?_; (with_reducible refine (impl_CompareValues.calls kj2 t210 t211 t212 t206 t207 t208 t229 t230 _ A12.out).mono ?_); rintro e w39 ⟨rfl, hb⟩; refine ⟨_, rfl, ?_⟩; have n0_ := Aside0.mk (Kd.R_below (by (with_reducible repeat (first | apply Kd.R_alloc | apply Kd.R_drewN | apply Kd.R_drew)); exact HO222.out) hb); have n1_ := Aside0.mk (blk_below (g := gb209) (o := .cells #[.int .i64 t206, .int .i64 t207, .string t208] 27 (0, 0)) (by (with_reducible repeat (first | refine blk_drewN ?_ _ | refine blk_drew ?_ | refine blk_alloc ?_ _)); exact BK209.out) hb); have n2_ := Aside0.mk (blk_below (g := gb213) (o := .cells #[.int .i64 t210, .int .i64 t211, .string t212] 27 (0, 0)) (by (with_reducible repeat (first | refine blk_drewN ?_ _ | refine blk_drew ?_ | refine blk_alloc ?_ _)); exact BK213.out) hb); have n3_ := Aside0.mk (blk_below (g := gb226) (o := .cells #[.int .i64 t223, .int .i64 t224, .string t225] 27 (0, 0)) (by (with_reducible repeat (first | refine blk_drewN ?_ _ | refine blk_drew ?_ | refine blk_alloc ?_ _)); exact BK226.out) hb); have n4_ := Aside0.mk (below_step (by repeat (first | (with_reducible first | exact HB.out | apply below_alloc | apply pw_below_drewN | apply below_drew1 | refine below_set ?_ GE209.out | refine below_set ?_ GE213.out | refine below_set ?_ GE226.out) | exact HB.out)) hb); clear HO222; clear BK209; clear BK213; clear BK226; clear HB; have HO222 := n0_; have BK209 := n1_; have BK213 := n2_; have BK226 := n3_; have HB := n4_; clear n0_ n1_ n2_ n3_ n4_; (try clear hb); (try clear hb2); (try clear hk); (try clear hi); have hcz40_0 : w39.cell? ⟨gb213, 0, none⟩ = some (.int .i64 t210) := (blk_cell BK213.out 0).trans rfl; have hcz40_1 : w39.cell? ⟨gb213, 1, none⟩ = some (.int .i64 t211) := (blk_cell BK213.out 1).trans rfl; have hcz40_2 : w39.cell? ⟨gb213, 2, none⟩ = some (.string t212) := (blk_cell BK213.out 2).trans rfl; have hfz40_0 := blk_frozen BK213.out 0; have hfz40_1 := blk_frozen BK213.out 1; have hfz40_2 := blk_frozen BK213.out 2; have hcz41_0 : w39.cell? ⟨gb226, 0, none⟩ = some (.int .i64 t223) := (blk_cell BK226.out 0).trans rfl; have hcz41_1 : w39.cell? ⟨gb226, 1, none⟩ = some (.int .i64 t224) := (blk_cell BK226.out 1).trans rfl; have hcz41_2 : w39.cell? ⟨gb226, 2, none⟩ = some (.string t225) := (blk_cell BK226.out 2).trans rfl; have hfz41_0 := blk_frozen BK226.out 0; have hfz41_1 := blk_frozen BK226.out 1; have hfz41_2 := blk_frozen BK226.out 2) | ((with_reducible refine gate_callee (f := 16) rfl ?_); refine goesL_ (some 51) rfl rfl Try.func16 (by kernel_rfl) rfl #[.agg #[.int .i64 t210, .int .i64 t211, .string t212], .agg #[.int .i64 t223, .int .i64 t224, .string t225]] rfl (by (try simp only [List.map_toArray, List.map_cons, List.map_nil]); first | done | rfl | (simp only [List.length_drop, List.length_take]; rfl)) ?_; (with_reducible refine (impl_CompareValues.calls kj2 t210 t211 t212 t223 t224 t225 t231 t232 _ A13.out).mono ?_); rintro e w42 ⟨rfl, hb⟩; refine ⟨_, rfl, ?_⟩; have n0_ := Aside0.mk (Kd.R_below (by (with_reducible repeat (first | apply Kd.R_alloc | apply Kd.R_drewN | apply Kd.R_drew)); exact HO222.out) hb); have n1_ := Aside0.mk (blk_below (g := gb209) (o := .cells #[.int .i64 t206, .int .i64 t207, .string t208] 27 (0, 0)) (by (with_reducible repeat (first | refine blk_drewN ?_ _ | refine blk_drew ?_ | refine blk_alloc ?_ _)); exact BK209.out) hb); have n2_ := Aside0.mk (blk_below (g := gb213) (o := .cells #[.int .i64 t210, .int .i64 t211, .string t212] 27 (0, 0)) (by (with_reducible repeat (first | refine blk_drewN ?_ _ | refine blk_drew ?_ | refine blk_alloc ?_ _)); exact BK213.out) hb); have n3_ := Aside0.mk (blk_below (g := gb226) (o := .cells #[.int .i64 t223, .int .i64 t224, .string t225] 27 (0, 0)) (by (with_reducible repeat (first | refine blk_drewN ?_ _ | refine blk_drew ?_ | refine blk_alloc ?_ _)); exact BK226.out) hb); have n4_ := Aside0.mk (below_step (by repeat (first | (with_reducible first | exact HB.out | apply below_alloc | apply pw_below_drewN | apply below_drew1 | refine below_set ?_ GE209.out | refine below_set ?_ GE213.out | refine below_set ?_ GE226.out) | exact HB.out)) hb); clear HO222; clear BK209; clear BK213; clear BK226; clear HB; have HO222 := n0_; have BK209 := n1_; have BK213 := n2_; have BK226 := n3_; have HB := n4_; clear n0_ n1_ n2_ n3_ n4_; (try clear hb); (try clear hb2); (try clear hk); (try clear hi); have hcz43_0 : w42.cell? ⟨gb209, 0, none⟩ = some (.int .i64 t206) := (blk_cell BK209.out 0).trans rfl; have hcz43_1 : w42.cell? ⟨gb209, 1, none⟩ = some (.int .i64 t207) := (blk_cell BK209.out 1).trans rfl; have hcz43_2 : w42.cell? ⟨gb209, 2, none⟩ = some (.string t208) := (blk_cell BK209.out 2).trans rfl; have hfz43_0 := blk_frozen BK209.out 0; have hfz43_1 := blk_frozen BK209.out 1; have hfz43_2 := blk_frozen BK209.out 2; have hcz44_0 : w42.cell? ⟨gb226, 0, none⟩ = some (.int .i64 t223) := (blk_cell BK226.out 0).trans rfl; have hcz44_1 : w42.cell? ⟨gb226, 1, none⟩ = some (.int .i64 t224) := (blk_cell BK226.out 1).trans rfl; have hcz44_2 : w42.cell? ⟨gb226, 2, none⟩ = some (.string t225) := (blk_cell BK226.out 2).trans rfl; have hfz44_0 := blk_frozen BK226.out 0; have hfz44_1 := blk_frozen BK226.out 1; have hfz44_2 := blk_frozen BK226.out 2) | ((with_reducible refine gate_callee (f := 16) rfl ?_); refine goesL_ (some 57) rfl rfl Try.func16 (by kernel_rfl) rfl #[.agg #[.int .i64 t206, .int .i64 t207, .string t208], .agg #[.int .i64 t223, .int .i64 t224, .string t225]] rfl (by (try simp only [List.map_toArray, List.map_cons, List.map_nil]); first | done | rfl | (simp only [List.length_drop, List.length_take]; rfl)) ?_; (with_reducible refine (impl_CompareValues.calls kj2 t206 t207 t208 t223 t224 t225 t233 t234 _ A14.out).mono ?_); rintro e w45 ⟨rfl, hb⟩; refine ⟨_, rfl, ?_⟩; have n0_ := Aside0.mk (Kd.R_below (by (with_reducible repeat (first | apply Kd.R_alloc | apply Kd.R_drewN | apply Kd.R_drew)); exact HO222.out) hb); have n1_ := Aside0.mk (blk_below (g := gb209) (o := .cells #[.int .i64 t206, .int .i64 t207, .string t208] 27 (0, 0)) (by (with_reducible repeat (first | refine blk_drewN ?_ _ | refine blk_drew ?_ | refine blk_alloc ?_ _)); exact BK209.out) hb); have n2_ := Aside0.mk (blk_below (g := gb213) (o := .cells #[.int .i64 t210, .int .i64 t211, .string t212] 27 (0, 0)) (by (with_reducible repeat (first | refine blk_drewN ?_ _ | refine blk_drew ?_ | refine blk_alloc ?_ _)); exact BK213.out) hb); have n3_ := Aside0.mk (blk_below (g := gb226) (o := .cells #[.int .i64 t223, .int .i64 t224, .string t225] 27 (0, 0)) (by (with_reducible repeat (first | refine blk_drewN ?_ _ | refine blk_drew ?_ | refine blk_alloc ?_ _)); exact BK226.out) hb); have n4_ := Aside0.mk (below_step (by repeat (first | (with_reducible first | exact HB.out | apply below_alloc | apply pw_below_drewN | apply below_drew1 | refine below_set ?_ GE209.out | refine below_set ?_ GE213.out | refine below_set ?_ GE226.out) | exact HB.out)) hb); clear HO222; clear BK209; clear BK213; clear BK226; clear HB; have HO222 := n0_; have BK209 := n1_; have BK213 := n2_; have BK226 := n3_; have HB := n4_; clear n0_ n1_ n2_ n3_ n4_; (try clear hb); (try clear hb2); (try clear hk); (try clear hi); have hcz46_0 : w45.cell? ⟨gb209, 0, none⟩ = some (.int .i64 t206) := (blk_cell BK209.out 0).trans rfl; have hcz46_1 : w45.cell? ⟨gb209, 1, none⟩ = some (.int .i64 t207) := (blk_cell BK209.out 1).trans rfl; have hcz46_2 : w45.cell? ⟨gb209, 2, none⟩ = some (.string t208) := (blk_cell BK209.out 2).trans rfl; have hfz46_0 := blk_frozen BK209.out 0; have hfz46_1 := blk_frozen BK209.out 1; have hfz46_2 := blk_frozen BK209.out 2; have hcz47_0 : w45.cell? ⟨gb213, 0, none⟩ = some (.int .i64 t210) := (blk_cell BK213.out 0).trans rfl; have hcz47_1 : w45.cell? ⟨gb213, 1, none⟩ = some (.int .i64 t211) := (blk_cell BK213.out 1).trans rfl; have hcz47_2 : w45.cell? ⟨gb213, 2, none⟩ = some (.string t212) := (blk_cell BK213.out 2).trans rfl; have hfz47_0 := blk_frozen BK213.out 0; have hfz47_1 := blk_frozen BK213.out 1; have hfz47_2 := blk_frozen BK213.out 2) | ((with_reducible refine gate_callee (f := 15) rfl ?_); refine goesL_ (some 63) rfl rfl Try.func15 (by kernel_rfl) rfl #[.agg #[.int .i64 t206, .int .i64 t207, .string t208], .agg #[.int .i64 t210, .int .i64 t211, .string t212]] rfl (by (try simp only [List.map_toArray, List.map_cons, List.map_nil]); first | done | rfl | (simp only [List.length_drop, List.length_take]; rfl)) ?_; (with_reducible refine (spec_CompareValues.calls kj2 t206 t207 t208 t210 t211 t212 t235 t236 _ A15.out).mono ?_); rintro e w48 ⟨rfl, hb⟩; refine ⟨_, rfl, ?_⟩; have n0_ := Aside0.mk (Kd.R_below (by (with_reducible repeat (first | apply Kd.R_alloc | apply Kd.R_drewN | apply Kd.R_drew)); exact HO222.out) hb); have n1_ := Aside0.mk (blk_below (g := gb209) (o := .cells #[.int .i64 t206, .int .i64 t207, .string t208] 27 (0, 0)) (by (with_reducible repeat (first | refine blk_drewN ?_ _ | refine blk_drew ?_ | refine blk_alloc ?_ _)); exact BK209.out) hb); have n2_ := Aside0.mk (blk_below (g := gb213) (o := .cells #[.int .i64 t210, .int .i64 t211, .string t212] 27 (0, 0)) (by (with_reducible repeat (first | refine blk_drewN ?_ _ | refine blk_drew ?_ | refine blk_alloc ?_ _)); exact BK213.out) hb); have n3_ := Aside0.mk (blk_below (g := gb226) (o := .cells #[.int .i64 t223, .int .i64 t224, .string t225] 27 (0, 0)) (by (with_reducible repeat (first | refine blk_drewN ?_ _ | refine blk_drew ?_ | refine blk_alloc ?_ _)); exact BK226.out) hb); have n4_ := Aside0.mk (below_step (by repeat (first | (with_reducible first | exact HB.out | apply below_alloc | apply pw_below_drewN | apply below_drew1 | refine below_set ?_ GE209.out | refine below_set ?_ GE213.out | refine below_set ?_ GE226.out) | exact HB.out)) hb); clear HO222; clear BK209; clear BK213; clear BK226; clear HB; have HO222 := n0_; have BK209 := n1_; have BK213 := n2_; have BK226 := n3_; have HB := n4_; clear n0_ n1_ n2_ n3_ n4_; (try clear hb); (try clear hb2); (try clear hk); (try clear hi)))
            (try simp only [Act.put, List.setIfInBounds_toArray, List.set_cons_zero, List.set_cons_succ])
            go_cut [98] (fun v98 wc => ∃ (kq : Nat) (x98_15 : Bool), v98 = .bool x98_15 ∧ Aside0 (laws_FnOrder.j1 kq t227 t231 t233 x98_15 = some r) ∧ Aside0 (kq ≤ kj2) ∧ Aside0 (wc.heap[gb209]? = some (.cells #[.int .i64 t206, .int .i64 t207, .string t208] 27 (0, 0))) ∧ Aside0 (wc.heap[gb213]? = some (.cells #[.int .i64 t210, .int .i64 t211, .string t212] 27 (0, 0))) ∧ Aside0 (wc.heap[gb226]? = some (.cells #[.int .i64 t223, .int .i64 t224, .string t225] 27 (0, 0))) ∧ Aside0 (Below w.heap.size w wc))
            case first =>
              have H := HC16.out
              clear HC16
              by_cases c49 : t228 = 0
              · rw [if_pos c49] at H
                have c49b0 : (t228 == 0) = true := beq_iff_eq.mpr c49
                have c49b0h := c49b0
                (try simp only [ByteArray.size_append] at c49b0h)
                have c49b1 : (t228 != 0) = false := bne_eq_false_iff_eq.mpr c49
                have c49b1h := c49b1
                (try simp only [ByteArray.size_append] at c49b1h)
                clear c49
                (first | rw [c49b0] | (simp only [i64_w, i32_w]; rw [c49b0]) | skip)
                by_cases c50 : t230 = 0
                · rw [if_pos c50] at H
                  have c50b0 : (t230 == 0) = true := beq_iff_eq.mpr c50
                  have c50b0h := c50b0
                  (try simp only [ByteArray.size_append] at c50b0h)
                  have c50b1 : (t230 != 0) = false := bne_eq_false_iff_eq.mpr c50
                  have c50b1h := c50b1
                  (try simp only [ByteArray.size_append] at c50b1h)
                  clear c50
                  by_cases c51 : t232 = 0
                  · rw [if_pos c51] at H
                    have c51b0 : (t232 == 0) = true := beq_iff_eq.mpr c51
                    have c51b0h := c51b0
                    (try simp only [ByteArray.size_append] at c51b0h)
                    have c51b1 : (t232 != 0) = false := bne_eq_false_iff_eq.mpr c51
                    have c51b1h := c51b1
                    (try simp only [ByteArray.size_append] at c51b1h)
                    clear c51
                    by_cases c52 : t234 = 0
                    · rw [if_pos c52] at H
                      have c52b0 : (t234 == 0) = true := beq_iff_eq.mpr c52
                      have c52b0h := c52b0
                      (try simp only [ByteArray.size_append] at c52b0h)
                      have c52b1 : (t234 != 0) = false := bne_eq_false_iff_eq.mpr c52
                      have c52b1h := c52b1
                      (try simp only [ByteArray.size_append] at c52b1h)
                      clear c52
                      by_cases c53 : t227 = t235
                      · rw [if_pos c53] at H
                        have c53b0 : (t227 == t235) = true := beq_iff_eq.mpr c53
                        have c53b0h := c53b0
                        (try simp only [ByteArray.size_append] at c53b0h)
                        have c53b1 : (t227 != t235) = false := bne_eq_false_iff_eq.mpr c53
                        have c53b1h := c53b1
                        (try simp only [ByteArray.size_append] at c53b1h)
                        clear c53
                        by_cases c54 : t227 = (wrap64 (-t229))
                        · rw [if_pos c54] at H
                          have c54b0 : (t227 == (wrap64 (-t229))) = true := beq_iff_eq.mpr c54
                          have c54b0h := c54b0
                          (try simp only [ByteArray.size_append] at c54b0h)
                          have c54b1 : (t227 != (wrap64 (-t229))) = false := bne_eq_false_iff_eq.mpr c54
                          have c54b1h := c54b1
                          (try simp only [ByteArray.size_append] at c54b1h)
                          clear c54
                          have H' := Aside0.mk H
                          clear H
                          have hnb55 := NB209_213.out
                          have hnc55 := NB213_209.out
                          have hnb56 := NB209_226.out
                          have hnc56 := NB226_209.out
                          have hcz57_0 : w48.cell? ⟨gb209, 0, none⟩ = some (.int .i64 t206) := (blk_cell BK209.out 0).trans rfl
                          have hcz57_1 : w48.cell? ⟨gb209, 1, none⟩ = some (.int .i64 t207) := (blk_cell BK209.out 1).trans rfl
                          have hcz57_2 : w48.cell? ⟨gb209, 2, none⟩ = some (.string t208) := (blk_cell BK209.out 2).trans rfl
                          have hfz57_0 := blk_frozen BK209.out 0
                          have hfz57_1 := blk_frozen BK209.out 1
                          have hfz57_2 := blk_frozen BK209.out 2
                          have hnb58 := NB213_226.out
                          have hnc58 := NB226_213.out
                          have hcz59_0 : w48.cell? ⟨gb213, 0, none⟩ = some (.int .i64 t210) := (blk_cell BK213.out 0).trans rfl
                          have hcz59_1 : w48.cell? ⟨gb213, 1, none⟩ = some (.int .i64 t211) := (blk_cell BK213.out 1).trans rfl
                          have hcz59_2 : w48.cell? ⟨gb213, 2, none⟩ = some (.string t212) := (blk_cell BK213.out 2).trans rfl
                          have hfz59_0 := blk_frozen BK213.out 0
                          have hfz59_1 := blk_frozen BK213.out 1
                          have hfz59_2 := blk_frozen BK213.out 2
                          go_wp2
                          go_meet
                          case rel => exact ⟨_, (((t227 == 0) != (t206 == t210 && (t207 == t211 && (t208.toList == t212.toList))))), (by first | rfl | (simp; done) | (simp [*]; done)), H', ⟨by have := HJ2.out; first | omega | exact Nat.le_refl _⟩, ⟨by (with_reducible repeat (first | refine blk_drewN ?_ _ | refine blk_drew ?_ | refine blk_alloc ?_ _)); exact BK209.out⟩, ⟨by (with_reducible repeat (first | refine blk_drewN ?_ _ | refine blk_drew ?_ | refine blk_alloc ?_ _)); exact BK213.out⟩, ⟨by (with_reducible repeat (first | refine blk_drewN ?_ _ | refine blk_drew ?_ | refine blk_alloc ?_ _)); exact BK226.out⟩, ⟨by repeat (first | (with_reducible first | exact HB.out | apply below_alloc | apply pw_below_drewN | apply below_drew1 | refine below_set ?_ GE209.out | refine below_set ?_ GE213.out | refine below_set ?_ GE226.out) | exact HB.out)⟩⟩
                        · rw [if_neg c54] at H
                          have c54b0 : (t227 == (wrap64 (-t229))) = false := beq_eq_false_iff_ne.mpr c54
                          have c54b0h := c54b0
                          (try simp only [ByteArray.size_append] at c54b0h)
                          have c54b1 : (t227 != (wrap64 (-t229))) = true := bne_iff_ne.mpr c54
                          have c54b1h := c54b1
                          (try simp only [ByteArray.size_append] at c54b1h)
                          have H' := Aside0.mk H
                          clear H
                          go_wp2
                          go_meet
                          case rel => exact ⟨_, (true), (by first | rfl | (simp; done) | (simp [*]; done)), H', ⟨by have := HJ2.out; first | omega | exact Nat.le_refl _⟩, ⟨by (with_reducible repeat (first | refine blk_drewN ?_ _ | refine blk_drew ?_ | refine blk_alloc ?_ _)); exact BK209.out⟩, ⟨by (with_reducible repeat (first | refine blk_drewN ?_ _ | refine blk_drew ?_ | refine blk_alloc ?_ _)); exact BK213.out⟩, ⟨by (with_reducible repeat (first | refine blk_drewN ?_ _ | refine blk_drew ?_ | refine blk_alloc ?_ _)); exact BK226.out⟩, ⟨by repeat (first | (with_reducible first | exact HB.out | apply below_alloc | apply pw_below_drewN | apply below_drew1 | refine below_set ?_ GE209.out | refine below_set ?_ GE213.out | refine below_set ?_ GE226.out) | exact HB.out)⟩⟩
                      · rw [if_neg c53] at H
                        have c53b0 : (t227 == t235) = false := beq_eq_false_iff_ne.mpr c53
                        have c53b0h := c53b0
                        (try simp only [ByteArray.size_append] at c53b0h)
                        have c53b1 : (t227 != t235) = true := bne_iff_ne.mpr c53
                        have c53b1h := c53b1
                        (try simp only [ByteArray.size_append] at c53b1h)
                        have H' := Aside0.mk H
                        clear H
                        go_wp2
                        go_meet
                        case rel => exact ⟨_, (true), (by first | rfl | (simp; done) | (simp [*]; done)), H', ⟨by have := HJ2.out; first | omega | exact Nat.le_refl _⟩, ⟨by (with_reducible repeat (first | refine blk_drewN ?_ _ | refine blk_drew ?_ | refine blk_alloc ?_ _)); exact BK209.out⟩, ⟨by (with_reducible repeat (first | refine blk_drewN ?_ _ | refine blk_drew ?_ | refine blk_alloc ?_ _)); exact BK213.out⟩, ⟨by (with_reducible repeat (first | refine blk_drewN ?_ _ | refine blk_drew ?_ | refine blk_alloc ?_ _)); exact BK226.out⟩, ⟨by repeat (first | (with_reducible first | exact HB.out | apply below_alloc | apply pw_below_drewN | apply below_drew1 | refine below_set ?_ GE209.out | refine below_set ?_ GE213.out | refine below_set ?_ GE226.out) | exact HB.out)⟩⟩
                    · rw [if_neg c52] at H
                      have c52b0 : (t234 == 0) = false := beq_eq_false_iff_ne.mpr c52
                      have c52b0h := c52b0
                      (try simp only [ByteArray.size_append] at c52b0h)
                      have c52b1 : (t234 != 0) = true := bne_iff_ne.mpr c52
                      have c52b1h := c52b1
                      (try simp only [ByteArray.size_append] at c52b1h)
                      have H' := Aside0.mk H
                      clear H
                      go_wp2
                      go_meet
                      case rel => exact ⟨_, (true), (by first | rfl | (simp; done) | (simp [*]; done)), H', ⟨by have := HJ2.out; first | omega | exact Nat.le_refl _⟩, ⟨by (with_reducible repeat (first | refine blk_drewN ?_ _ | refine blk_drew ?_ | refine blk_alloc ?_ _)); exact BK209.out⟩, ⟨by (with_reducible repeat (first | refine blk_drewN ?_ _ | refine blk_drew ?_ | refine blk_alloc ?_ _)); exact BK213.out⟩, ⟨by (with_reducible repeat (first | refine blk_drewN ?_ _ | refine blk_drew ?_ | refine blk_alloc ?_ _)); exact BK226.out⟩, ⟨by repeat (first | (with_reducible first | exact HB.out | apply below_alloc | apply pw_below_drewN | apply below_drew1 | refine below_set ?_ GE209.out | refine below_set ?_ GE213.out | refine below_set ?_ GE226.out) | exact HB.out)⟩⟩
                  · rw [if_neg c51] at H
                    have c51b0 : (t232 == 0) = false := beq_eq_false_iff_ne.mpr c51
                    have c51b0h := c51b0
                    (try simp only [ByteArray.size_append] at c51b0h)
                    have c51b1 : (t232 != 0) = true := bne_iff_ne.mpr c51
                    have c51b1h := c51b1
                    (try simp only [ByteArray.size_append] at c51b1h)
                    have H' := Aside0.mk H
                    clear H
                    go_wp2
                    go_meet
                    case rel => exact ⟨_, (true), (by first | rfl | (simp; done) | (simp [*]; done)), H', ⟨by have := HJ2.out; first | omega | exact Nat.le_refl _⟩, ⟨by (with_reducible repeat (first | refine blk_drewN ?_ _ | refine blk_drew ?_ | refine blk_alloc ?_ _)); exact BK209.out⟩, ⟨by (with_reducible repeat (first | refine blk_drewN ?_ _ | refine blk_drew ?_ | refine blk_alloc ?_ _)); exact BK213.out⟩, ⟨by (with_reducible repeat (first | refine blk_drewN ?_ _ | refine blk_drew ?_ | refine blk_alloc ?_ _)); exact BK226.out⟩, ⟨by repeat (first | (with_reducible first | exact HB.out | apply below_alloc | apply pw_below_drewN | apply below_drew1 | refine below_set ?_ GE209.out | refine below_set ?_ GE213.out | refine below_set ?_ GE226.out) | exact HB.out)⟩⟩
                · rw [if_neg c50] at H
                  have c50b0 : (t230 == 0) = false := beq_eq_false_iff_ne.mpr c50
                  have c50b0h := c50b0
                  (try simp only [ByteArray.size_append] at c50b0h)
                  have c50b1 : (t230 != 0) = true := bne_iff_ne.mpr c50
                  have c50b1h := c50b1
                  (try simp only [ByteArray.size_append] at c50b1h)
                  have H' := Aside0.mk H
                  clear H
                  go_wp2
                  go_meet
                  case rel => exact ⟨_, (true), (by first | rfl | (simp; done) | (simp [*]; done)), H', ⟨by have := HJ2.out; first | omega | exact Nat.le_refl _⟩, ⟨by (with_reducible repeat (first | refine blk_drewN ?_ _ | refine blk_drew ?_ | refine blk_alloc ?_ _)); exact BK209.out⟩, ⟨by (with_reducible repeat (first | refine blk_drewN ?_ _ | refine blk_drew ?_ | refine blk_alloc ?_ _)); exact BK213.out⟩, ⟨by (with_reducible repeat (first | refine blk_drewN ?_ _ | refine blk_drew ?_ | refine blk_alloc ?_ _)); exact BK226.out⟩, ⟨by repeat (first | (with_reducible first | exact HB.out | apply below_alloc | apply pw_below_drewN | apply below_drew1 | refine below_set ?_ GE209.out | refine below_set ?_ GE213.out | refine below_set ?_ GE226.out) | exact HB.out)⟩⟩
              · rw [if_neg c49] at H
                have c49b0 : (t228 == 0) = false := beq_eq_false_iff_ne.mpr c49
                have c49b0h := c49b0
                (try simp only [ByteArray.size_append] at c49b0h)
                have c49b1 : (t228 != 0) = true := bne_iff_ne.mpr c49
                have c49b1h := c49b1
                (try simp only [ByteArray.size_append] at c49b1h)
                (first | rw [c49b0] | (simp only [i64_w, i32_w]; rw [c49b0]) | skip)
                have H' := Aside0.mk H
                clear H
                go_wp2
                go_meet
                case rel => exact ⟨_, (true), (by first | rfl | (simp; done) | (simp [*]; done)), H', ⟨by have := HJ2.out; first | omega | exact Nat.le_refl _⟩, ⟨by (with_reducible repeat (first | refine blk_drewN ?_ _ | refine blk_drew ?_ | refine blk_alloc ?_ _)); exact BK209.out⟩, ⟨by (with_reducible repeat (first | refine blk_drewN ?_ _ | refine blk_drew ?_ | refine blk_alloc ?_ _)); exact BK213.out⟩, ⟨by (with_reducible repeat (first | refine blk_drewN ?_ _ | refine blk_drew ?_ | refine blk_alloc ?_ _)); exact BK226.out⟩, ⟨by repeat (first | (with_reducible first | exact HB.out | apply below_alloc | apply pw_below_drewN | apply below_drew1 | refine below_set ?_ GE209.out | refine below_set ?_ GE213.out | refine below_set ?_ GE226.out) | exact HB.out)⟩⟩
            case rest =>
              clear HC16
              try clear c1
              try clear c2
              try clear p2
              try clear c3
              try clear c4
              try clear c4b0
              try clear c4b1
              try clear c5
              try clear c6
              try clear p6
              try clear c8
              try clear c9
              try clear c15
              try clear c16
              try clear c17
              try clear c22
              try clear c31
              try clear c32
              try clear c49
              try clear c49b0
              try clear c49b1
              try clear c50
              try clear c50b0
              try clear c50b1
              try clear c51
              try clear c51b0
              try clear c51b1
              try clear c52
              try clear c52b0
              try clear c52b1
              try clear c53
              try clear c53b0
              try clear c53b1
              try clear c54
              try clear c54b0
              try clear c54b1
              try clear c55
              try clear c56
              try clear c58
              try clear hcz19_0
              try clear hcz19_1
              try clear hcz19_2
              try clear hcz23_0
              try clear hcz23_1
              try clear hcz23_2
              try clear hcz33_0
              try clear hcz33_1
              try clear hcz33_2
              try clear hcz34_0
              try clear hcz34_1
              try clear hcz34_2
              try clear hcz35_0
              try clear hcz35_1
              try clear hcz35_2
              try clear hcz37_0
              try clear hcz37_1
              try clear hcz37_2
              try clear hcz38_0
              try clear hcz38_1
              try clear hcz38_2
              try clear hcz40_0
              try clear hcz40_1
              try clear hcz40_2
              try clear hcz41_0
              try clear hcz41_1
              try clear hcz41_2
              try clear hcz43_0
              try clear hcz43_1
              try clear hcz43_2
              try clear hcz44_0
              try clear hcz44_1
              try clear hcz44_2
              try clear hcz46_0
              try clear hcz46_1
              try clear hcz46_2
              try clear hcz47_0
              try clear hcz47_1
              try clear hcz47_2
              try clear hcz57_0
              try clear hcz57_1
              try clear hcz57_2
              try clear hcz59_0
              try clear hcz59_1
              try clear hcz59_2
              try clear hfz19_0
              try clear hfz19_1
              try clear hfz19_2
              try clear hfz23_0
              try clear hfz23_1
              try clear hfz23_2
              try clear hfz33_0
              try clear hfz33_1
              try clear hfz33_2
              try clear hfz34_0
              try clear hfz34_1
              try clear hfz34_2
              try clear hfz35_0
              try clear hfz35_1
              try clear hfz35_2
              try clear hfz37_0
              try clear hfz37_1
              try clear hfz37_2
              try clear hfz38_0
              try clear hfz38_1
              try clear hfz38_2
              try clear hfz40_0
              try clear hfz40_1
              try clear hfz40_2
              try clear hfz41_0
              try clear hfz41_1
              try clear hfz41_2
              try clear hfz43_0
              try clear hfz43_1
              try clear hfz43_2
              try clear hfz44_0
              try clear hfz44_1
              try clear hfz44_2
              try clear hfz46_0
              try clear hfz46_1
              try clear hfz46_2
              try clear hfz47_0
              try clear hfz47_1
              try clear hfz47_2
              try clear hfz57_0
              try clear hfz57_1
              try clear hfz57_2
              try clear hfz59_0
              try clear hfz59_1
              try clear hfz59_2
              try clear p2
              obtain ⟨kq, x98_15, rfl, HA, HJ15, BK209, BK213, BK226, HB⟩ := hcut
              cases kq with
              | zero => exact absurd HA.out (by simp [laws_FnOrder.j1])
              | succ kj15 =>
                have H := HA.out
                clear HA
                simp only [laws_FnOrder.j1] at H
                by_cases c60 : x98_15 = true
                · subst c60
                  have H1 : (some false) = some r := by rw [if_pos rfl] at H; exact H
                  clear H
                  have H := H1
                  clear H1
                  obtain rfl := Option.some.inj H
                  go_wp2
                  go_ret
                  exact ⟨by first | rfl | (simp [errW_none, errW_some] <;> rfl) | (simp [*, errW_none, errW_some] <;> rfl), by repeat (first | (with_reducible first | exact HB.out | apply below_alloc | apply pw_below_drewN | apply below_drew1 | refine below_set ?_ GE209.out | refine below_set ?_ GE213.out | refine below_set ?_ GE226.out) | exact HB.out)⟩
                · replace c60 := Bool.eq_false_iff.mpr c60
                  subst c60
                  have H1 : (if t227 ≤ 0 then (if t231 ≤ 0 then (some (decide (t233 ≤ 0))) else (some true)) else (some true)) = some r := by rw [if_neg (show ¬ (false = true) by decide)] at H; exact H
                  clear H
                  have H := H1
                  clear H1
                  by_cases c61 : t227 ≤ 0
                  · rw [if_pos c61] at H
                    have c61b0 : decide (t227 ≤ 0) = true := decide_eq_true c61
                    have c61b0h := c61b0
                    (try simp only [ByteArray.size_append] at c61b0h)
                    clear c61
                    by_cases c62 : t231 ≤ 0
                    · rw [if_pos c62] at H
                      have c62b0 : decide (t231 ≤ 0) = true := decide_eq_true c62
                      have c62b0h := c62b0
                      (try simp only [ByteArray.size_append] at c62b0h)
                      clear c62
                      obtain rfl := Option.some.inj H
                      go_wp2
                      go_ret
                      exact ⟨by first | rfl | (simp [errW_none, errW_some] <;> rfl) | (simp [*, errW_none, errW_some] <;> rfl), by repeat (first | (with_reducible first | exact HB.out | apply below_alloc | apply pw_below_drewN | apply below_drew1 | refine below_set ?_ GE209.out | refine below_set ?_ GE213.out | refine below_set ?_ GE226.out) | exact HB.out)⟩
                    · rw [if_neg c62] at H
                      have c62b0 : decide (t231 ≤ 0) = false := decide_eq_false c62
                      have c62b0h := c62b0
                      (try simp only [ByteArray.size_append] at c62b0h)
                      clear c62
                      obtain rfl := Option.some.inj H
                      go_wp2
                      go_ret
                      exact ⟨by first | rfl | (simp [errW_none, errW_some] <;> rfl) | (simp [*, errW_none, errW_some] <;> rfl), by repeat (first | (with_reducible first | exact HB.out | apply below_alloc | apply pw_below_drewN | apply below_drew1 | refine below_set ?_ GE209.out | refine below_set ?_ GE213.out | refine below_set ?_ GE226.out) | exact HB.out)⟩
                  · rw [if_neg c61] at H
                    have c61b0 : decide (t227 ≤ 0) = false := decide_eq_false c61
                    have c61b0h := c61b0
                    (try simp only [ByteArray.size_append] at c61b0h)
                    clear c61
                    obtain rfl := Option.some.inj H
                    go_wp2
                    go_ret
                    exact ⟨by first | rfl | (simp [errW_none, errW_some] <;> rfl) | (simp [*, errW_none, errW_some] <;> rfl), by repeat (first | (with_reducible first | exact HB.out | apply below_alloc | apply pw_below_drewN | apply below_drew1 | refine below_set ?_ GE209.out | refine below_set ?_ GE213.out | refine below_set ?_ GE226.out) | exact HB.out)⟩
          · rw [if_neg c9] at H
            exact absurd H (by simp)
        · rw [if_neg c8] at H
          exact absurd H (by simp)

/-- THE ONE PURE STATEMENT of laws_FnOrder: yours. -/
def laws_FnOrder.Pure : Prop := ∀ (l0 : List Int) (l1 : List Int), l0.length ≤ maxLen → l0.length * 1 ≤ 140737488351232 → (∀ x ∈ l0, (Lit.int .u8 x).wf = true) → l1.length ≤ maxLen → l1.length * 1 ≤ 140737488351232 → (∀ x ∈ l1, (Lit.int .u8 x).wf = true) → ∃ k, laws_FnOrder.f k l0 l1 = some true
theorem laws_FnOrder.walk (P : laws_FnOrder.Pure) (a0 : Option Addr) (len0 cap0 : Nat) (z0 : List Int) (a1 : Option Addr) (len1 cap1 : Nat) (z1 : List Int) (w : World) (w0 : (a0 = none ∧ len0 = 0 ∧ cap0 = 0 ∧ z0 = []) ∨ ∃ x, a0 = some x ∧ len0 ≤ cap0 ∧ cap0 ≤ maxLen ∧ z0.length = cap0 ∧ (∀ i, i < z0.length → w.cell? (x.add i) = some (.int .u8 (z0.getD i 0))) ∧ ∀ n ∈ z0, (Lit.int .u8 n).wf = true) (y0 : len0 * 1 ≤ 140737488351232) (w1 : (a1 = none ∧ len1 = 0 ∧ cap1 = 0 ∧ z1 = []) ∨ ∃ x, a1 = some x ∧ len1 ≤ cap1 ∧ cap1 ≤ maxLen ∧ z1.length = cap1 ∧ (∀ i, i < z1.length → w.cell? (x.add i) = some (.int .u8 (z1.getD i 0))) ∧ ∀ n ∈ z1, (Lit.int .u8 n).wf = true) (y1 : len1 * 1 ≤ 140737488351232) :
    Calls Try.prog 6 #[.slice a0 len0 cap0, .slice a1 len1 cap1] w fun e w' => e = .returned (.bool true) ∧ Below w.heap.size w w' := by
  obtain ⟨l0, rfl, hr0, hm0, hw0, hc0⟩ := ReadsInt.ofRowC w0
  obtain ⟨l1, rfl, hr1, hm1, hw1, hc1⟩ := ReadsInt.ofRowC w1
  obtain ⟨k, h⟩ := P l0 l1 hm0 y0 hw0 hm1 y1 hw1
  refine (laws_FnOrder.calls k _ _ l0 _ _ l1 true w (Kd.C_of_reads (d := (0 : Int)) (h1 := fun _ => rfl) hr0) hc0 (Kd.C_of_reads (d := (0 : Int)) (h1 := fun _ => rfl) hr1) hc1 h).mono ?_
  rintro e w' ⟨rfl, hd⟩
  exact ⟨rfl, hd⟩

end Go.Proofs.Ytnljfjicopffbaa.XO
