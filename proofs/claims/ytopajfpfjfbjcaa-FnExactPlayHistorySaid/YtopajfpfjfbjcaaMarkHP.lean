/- Acts of a history, marked; plain lemmas. -/
import Derived.Test.YtopajfpfjfbjcaaXP2
import Derived.Test.YtopajfpfjfbjcaaMarkTP
import Derived.Test.YtopajfpfjfbjcaaHistP
namespace Go.Proofs.Ytopajfpfjfbjcaa.MarkHP
open Go Go.RowKit Go.Proofs.Ytopajfpfjfbjcaa.XP Go.Proofs.YtopajfpfjfbjcaaW.PrintWords Go.Proofs.YtopajfpfjfbjcaaW.PrintLast Go.Proofs.YtopajfpfjfbjcaaW.PrintMore Go.Proofs.Ytopajfpfjfbjcaa.Aid Go.Proofs.Ytopajfpfjfbjcaa.Loops Go.Proofs.Ytopajfpfjfbjcaa.MarkE Go.Proofs.Ytopajfpfjfbjcaa.MarkTP Go.Proofs.Ytopajfpfjfbjcaa.HistP
set_option linter.unusedVariables false
set_option linter.unusedSimpArgs false

/-! Acts, numbers -/
noncomputable def mkH (a : Int) : H := ⟨a, a + 1, mt (a + 2), mt (a + 3)⟩
theorem hops_mark (xs : List H) (s : Int) (h0 : 0 ≤ s) (hc : s + 4 * xs.length ≤ 536870912) : Ev (fun k => laws_markHOpS.f k xs s) (s + 4 * xs.length, stone mkH s 4 xs.length) := by
  unfold laws_markHOpS.f
  refine markE (fun k xs a i => laws_markHOpS.l0 k xs a i) xs.length s 4 mkH h0 (by omega) hc (fun i ys a r hy hi ha hb hr => ?_) (fun ys a hy => ?_) xs rfl
  · have g : ∀ (y : H), rd_T47 (ys.set i y) (i : Int) = y := fun y => by
      show (ys.set i y).getD (i : Int).toNat z47 = y
      rw [Int.toNat_natCast]
      exact set_get ys i y z47 (by omega)
    have e1 : wrap64 (a + 1) = a + 1 := wrap_id (by omega) (by omega)
    have e2 : wrap64 (a + 1 + 1) = a + 2 := by rw [wrap_id (by omega) (by omega)]; omega
    have e3 : wrap64 (a + 2 + 1) = a + 3 := by rw [wrap_id (by omega) (by omega)]; omega
    have e4 : wrap64 (a + 3 + 1) = a + 4 := by rw [wrap_id (by omega) (by omega)]; omega
    refine Ev.step (f := fun k => (laws_markText.f k (a + 2)).bind fun t => (laws_markText.f k (a + 3)).bind fun u => laws_markHOpS.l0 k (ys.set i (⟨a, a + 1, t, u⟩ : H)) (a + 4) ((i + 1 : Nat) : Int)) (fun k => ?_) ?_
    · simp only [laws_markHOpS.l0, Option.bind_some]
      rw [if_pos (by omega), if_pos (by omega)]
      simp only [Int.toNat_natCast, List.set_set, g, e1, e2, e3, e4]
      rw [next_ (n := xs.length) hi (by omega)]
    · exact Ev.bind (mt_ev (a + 2) (by omega)) (Ev.bind (mt_ev (a + 3) (by omega)) hr)
  · exact Ev.step (f := fun _ => some (a, ys)) (fun k => by simp only [laws_markHOpS.l0]; rw [if_neg (by omega)]) (Ev.now _)
end Go.Proofs.Ytopajfpfjfbjcaa.MarkHP
