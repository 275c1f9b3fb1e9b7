import Derived.Test.YtopajfpfjfbjcaaProg
import Derived.Below
import Derived.Deep.Draws
import Derived.Deep.AppendLies
import Derived.Maps.AppendAt
import Derived.OwnWalk
import Derived.Laws.BytesArg
import Derived.Laws.MakeOwn
import Derived.Laws.OwnMore
import Derived.Deep.OwnRows
import Derived.Tactics
import Derived.Lib.ConvBytes
import Derived.Laws.Slices
import Derived.WalkKit
import Derived.KernelRfl
import Derived.RowKit3
import Derived.Deep.LoopGhost
import Derived.Deep.QuietTactic
import Derived.BigQuiet
import Derived.WideLaws
import Derived.Deep.DeepCutAuto
import Derived.Deep.CutBlock
import Derived.Deep.RegionHeld3
import Derived.Laws.Rows
import Derived.Lib.AppendStr
import Derived.ArgAppend
import Derived.Laws.IdiomCopy
import Derived.OrdersHeld
import Derived.Laws.BitsLemmas
import Derived.RowKit
import Derived.Test.YtopajfpfjfbjcaaWWords
import Derived.Test.YtopajfpfjfbjcaaWLast
import Derived.Test.YtopajfpfjfbjcaaWTab
import Derived.Test.YtopajfpfjfbjcaaWQPut
import Derived.Test.YtopajfpfjfbjcaaWApart
import Derived.Test.YtopajfpfjfbjcaaWArr
import Derived.Test.YtopajfpfjfbjcaaWZeros
import Derived.Test.YtopajfpfjfbjcaaWFoot
import Derived.Test.YtopajfpfjfbjcaaWKept
import Derived.Test.YtopajfpfjfbjcaaWShare
import Derived.Test.YtopajfpfjfbjcaaWN
import Derived.Test.YtopajfpfjfbjcaaWFootNe
import Derived.Test.YtopajfpfjfbjcaaWAt
import Derived.Test.YtopajfpfjfbjcaaWEqStruct
import Derived.Test.YtopajfpfjfbjcaaWRepsOne
import Derived.Test.YtopajfpfjfbjcaaWGuard
import Derived.Test.YtopajfpfjfbjcaaWNEv
import Derived.Test.YtopajfpfjfbjcaaWMore
import Derived.Test.YtopajfpfjfbjcaaXtra
import Derived.Test.YtopajfpfjfbjcaaLayF
import Derived.Test.YtopajfpfjfbjcaaShelf
import Derived.Deep.RegionWith
namespace Go.Proofs.Ytopajfpfjfbjcaa.EdgeF
open Go Go.RowKit Go.Proofs Go.Proofs.YtopajfpfjfbjcaaW.PrintWords Go.Sort
set_option linter.unusedVariables false
theorem cell_at (W : World) (a b c : Obj) : (((W.alloc a).alloc b).alloc c).drew.heap[W.heap.size + 1 + 1]? = some c := by
  show (((W.heap.push a).push b).push c)[W.heap.size + 1 + 1]? = some c
  rw [Array.getElem?_push, if_pos (by simp)]
def or2 (p q : Int) : Int := if p = 0 then q else p
set_option maxHeartbeats 1000000 in
theorem Or2 (g : Nat) (p q : Int) (W : World) (hb : W.heap[g]? = some (.cells #[.int .i64 p, .int .i64 q] 3 (0, 0))) :
    Calls Try.prog 32 #[.slice (some ⟨g, 0, none⟩) 2 2] W fun e w' => e = .returned (.int .i64 (or2 p q)) ∧ w' = W := by
  have hz0 : W.cell? ⟨g, 0, none⟩ = some (.int .i64 p) := (blk_cell hb 0).trans rfl
  have hz1 : W.cell? ⟨g, 1, none⟩ = some (.int .i64 q) := (blk_cell hb 1).trans rfl
  clear hb
  by_cases hp : p = 0
  · have hr : or2 p q = q := if_pos hp
    rw [hr]
    subst hp
    by_cases hq : q = 0
    · subst hq
      go_enter Try.func32, Try.ntmps32
      go_wp2
      refine wp_loop_rounds 3 ?_
      rw [rounds_succ]
      go_wp2
      rw [rounds_succ]
      go_wp2
      rw [rounds_succ]
      go_wp2
      go_ret
      exact ⟨rfl, rfl⟩
    · have q1 : (q == 0) = false := beq_eq_false_iff_ne.2 hq
      have q2 : (q != 0) = true := bne_iff_ne.2 hq
      go_enter Try.func32, Try.ntmps32
      go_wp2
      refine wp_loop_rounds 3 ?_
      rw [rounds_succ]
      go_wp2
      rw [rounds_succ]
      go_wp2
      go_ret
      exact ⟨rfl, rfl⟩
  · have hr : or2 p q = p := if_neg hp
    rw [hr]
    have q1 : (p == 0) = false := beq_eq_false_iff_ne.2 hp
    have q2 : (p != 0) = true := bne_iff_ne.2 hp
    go_enter Try.func32, Try.ntmps32
    go_wp2
    refine wp_loop_rounds 3 ?_
    rw [rounds_succ]
    go_wp2
    go_ret
    exact ⟨rfl, rfl⟩
theorem world_at (W : World) (a b c : Obj) : (((W.alloc a).alloc b).alloc c).drew = grow (W.drewN 1) #[a, b, c] := by
  have h : ((W.heap.push a).push b).push c = W.heap ++ #[a, b, c] := by
    apply Array.ext'
    simp
  show { W with heap := ((W.heap.push a).push b).push c, drawn := W.drawn + 1 } = { W with heap := W.heap ++ #[a, b, c], drawn := W.drawn + 1 }
  rw [h]
set_option maxHeartbeats 20000000 in
theorem closure31 (x y : Int × Int) (W : World) : Calls Try.prog 31 #[.agg #[.int .i64 x.1, .int .i64 x.2], .agg #[.int .i64 y.1, .int .i64 y.2]] W fun e w' => e = .returned (.int .i64 (or2 (Lib.compareInt x.1 y.1) (Lib.compareInt x.2 y.2))) ∧ ∃ q os', w' = grow (W.drewN q) os' := by
  have h1 := fun W' => Try.cmp_Compare_int x.1 y.1 W'
  have h2 := fun W' => Try.cmp_Compare_int x.2 y.2 W'
  generalize Lib.compareInt x.1 y.1 = r1 at h1 ⊢
  generalize Lib.compareInt x.2 y.2 = r2 at h2 ⊢
  obtain ⟨x1, x2⟩ := x
  obtain ⟨y1, y2⟩ := y
  simp only at h1 h2 ⊢
  have H3 := Aside0.mk (Or2 · r1 r2 · ·)
  generalize or2 r1 r2 = r at H3 ⊢
  go_enter Try.func31, Try.ntmps31
  go_wp2
  go_region_with (first | (go_at_call 33; (with_reducible refine (h1 _).mono ?_); rintro e w' ⟨rfl, rfl⟩) | (go_at_call 33; (with_reducible refine (h2 _).mono ?_); rintro e w' ⟨rfl, rfl⟩) | (go_at_call 32; (with_reducible refine (H3.out _ _ (cell_at _ _ _ _)).mono ?_); rintro e w' ⟨rfl, rfl⟩))
  all_goals (go_wp2; go_ret; exact ⟨rfl, 1, _, world_at _ _ _ _⟩)
end Go.Proofs.Ytopajfpfjfbjcaa.EdgeF
