/- Edges: likeness, marks; plain lemmas. -/
import Derived.Test.YtopajfpfjfbjcaaXC9
import Derived.Test.YtopajfpfjfbjcaaXC10
import Derived.Test.YtopajfpfjfbjcaaMarkE
namespace Go.Proofs.Ytopajfpfjfbjcaa.MarkEdC
open Go Go.RowKit Go.Proofs.Ytopajfpfjfbjcaa.XC Go.Proofs.YtopajfpfjfbjcaaW.PrintWords Go.Proofs.YtopajfpfjfbjcaaW.PrintLast Go.Proofs.YtopajfpfjfbjcaaW.PrintMore Go.Proofs.Ytopajfpfjfbjcaa.Aid Go.Proofs.Ytopajfpfjfbjcaa.Loops Go.Proofs.Ytopajfpfjfbjcaa.MarkE
set_option linter.unusedVariables false
set_option linter.unusedSimpArgs false
abbrev E := S55
theorem edges_same (xs : List E) (hl : xs.length ≤ 1048576) : Ev (fun k => laws_eqEdgeS.f k xs xs) true := by
  unfold laws_eqEdgeS.f
  refine Ev.congr (fun k => if_pos rfl) ?_
  exact eqE (fun k i => laws_eqEdgeS.l0 k xs xs i) xs.length xs.length (fun _ i => laws_eqEdge.f (rd_T55 xs i).f0 (rd_T55 xs i).f1 (rd_T55 xs i).f0 (rd_T55 xs i).f1) (by omega) rfl (fun i hi => by unfold laws_eqEdge.f; rw [if_pos rfl, if_pos rfl]; exact Ev.now _) (fun _ _ => rfl)
def mkEdge (a : Int) : E := ⟨a, a + 1⟩
theorem edges_mark (xs : List E) (s : Int) (h0 : 0 ≤ s) (hc : s + 2 * xs.length ≤ 536870912) : Ev (fun k => laws_markEdgeS.f k xs s) (s + 2 * xs.length, stone mkEdge s 2 xs.length) := by
  unfold laws_markEdgeS.f
  refine markE (fun k xs a i => laws_markEdgeS.l0 k xs a i) xs.length s 2 mkEdge h0 (by omega) hc (fun i ys a r hy hi ha hb hr => ?_) (fun ys a hy => ?_) xs rfl
  · have g : ∀ (y : E), rd_T55 (ys.set i y) (i : Int) = y := fun y => by
      show (ys.set i y).getD (i : Int).toNat z55 = y
      rw [Int.toNat_natCast]
      exact set_get ys i y z55 (by omega)
    have e1 : wrap64 (a + 1) = a + 1 := wrap_id (by omega) (by omega)
    have e2 : wrap64 (a + 1 + 1) = a + 2 := by rw [wrap_id (by omega) (by omega)]; omega
    refine Ev.step (fun k => ?_) hr
    simp only [laws_markEdgeS.l0, Option.bind_some]
    rw [if_pos (by omega), if_pos (by omega)]
    simp only [Int.toNat_natCast, List.set_set, g, e1, e2]
    rw [next_ (n := xs.length) hi (by omega)]
    rfl
  · exact Ev.step (f := fun _ => some (a, ys)) (fun k => by simp only [laws_markEdgeS.l0]; rw [if_neg (by omega)]) (Ev.now _)
theorem edges_held (n : Nat) (s : Int) (h0 : 0 ≤ s) (hc : s + 2 * n ≤ 536870912) : Ev (fun k => laws_heldEdgeS.f k (stone mkEdge s 2 n) s) (s + 2 * n) := by
  have hl : (stone mkEdge s 2 n).length = n := by simp [stone]
  unfold laws_heldEdgeS.f
  refine heldE (fun k a i => laws_heldEdgeS.l0 k (stone mkEdge s 2 n) a i) n s 2 h0 (by omega) hc (fun i r hi hb ha hr => ?_) (fun a => ?_)
  · have g : rd_T55 (stone mkEdge s 2 n) (i : Int) = mkEdge (s + 2 * i) := by
      show (stone mkEdge s 2 n).getD (i : Int).toNat z55 = _
      rw [Int.toNat_natCast]
      exact stone_get mkEdge s 2 n z55 i hi
    have e1 : wrap64 (s + 2 * (i : Int) + 1) = s + 2 * (i : Int) + 1 := wrap_id (by omega) (by omega)
    have e2 : wrap64 (s + 2 * (i : Int) + 1 + 1) = s + 2 * (i : Int) + 2 := by rw [wrap_id (by omega) (by omega)]; omega
    refine Ev.step (fun k => ?_) hr
    simp only [laws_heldEdgeS.l0]
    rw [hl, if_pos (by omega), if_pos (by omega), g]
    simp only [mkEdge, e1, e2]
    rw [if_pos trivial, if_pos trivial, next_ (n := n) hi (by omega)]
  · exact Ev.step (f := fun _ => some a) (fun k => by simp only [laws_heldEdgeS.l0]; rw [hl, if_neg (by omega)]) (Ev.now _)
end Go.Proofs.Ytopajfpfjfbjcaa.MarkEdC
