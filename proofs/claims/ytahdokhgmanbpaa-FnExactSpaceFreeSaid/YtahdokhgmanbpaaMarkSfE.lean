/- Spaces marked; plain lemmas. -/
import Derived.Test.YtahdokhgmanbpaaXE1
import Derived.Test.YtahdokhgmanbpaaMarkIE
import Derived.Test.YtahdokhgmanbpaaSpaE
namespace Go.Proofs.Ytahdokhgmanbpaa.MarkSfE
open Go Go.RowKit Go.Proofs.Ytahdokhgmanbpaa.XE Go.Proofs.YtahdokhgmanbpaaW.PrintWords Go.Proofs.YtahdokhgmanbpaaW.PrintLast Go.Proofs.YtahdokhgmanbpaaW.PrintMore Go.Proofs.Ytahdokhgmanbpaa.Aid Go.Proofs.Ytahdokhgmanbpaa.Loops Go.Proofs.Ytahdokhgmanbpaa.MarkE Go.Proofs.Ytahdokhgmanbpaa.MarkIE Go.Proofs.Ytahdokhgmanbpaa.SpaE
set_option linter.unusedVariables false
set_option linter.unusedSimpArgs false

def mkHeld (a : Int) : H := ⟨a, a + 1⟩
theorem helds_mark (xs : List H) (s : Int) (h0 : 0 ≤ s) (hc : s + 2 * xs.length ≤ 536870912) : Ev (fun k => laws_markHeldS.f k xs s) (s + 2 * xs.length, stone mkHeld s 2 xs.length) := by
  unfold laws_markHeldS.f
  refine markE (fun k xs a i => laws_markHeldS.l0 k xs a i) xs.length s 2 mkHeld h0 (by omega) hc (fun i ys a r hy hi ha hb hr => ?_) (fun ys a hy => ?_) xs rfl
  · have g : ∀ (y : H), rd_T71 (ys.set i y) (i : Int) = y := fun y => by
      show (ys.set i y).getD (i : Int).toNat z71 = y
      rw [Int.toNat_natCast]
      exact set_get ys i y z71 (by omega)
    have e1 : wrap64 (a + 1) = a + 1 := wrap_id (by omega) (by omega)
    have e2 : wrap64 (a + 1 + 1) = a + 2 := by rw [wrap_id (by omega) (by omega)]; omega
    refine Ev.step (fun k => ?_) hr
    simp only [laws_markHeldS.l0, Option.bind_some]
    rw [if_pos (by omega), if_pos (by omega)]
    simp only [Int.toNat_natCast, List.set_set, g, e1, e2]
    rw [next_ (n := xs.length) hi (by omega)]
    rfl
  · exact Ev.step (f := fun _ => some (a, ys)) (fun k => by simp only [laws_markHeldS.l0]; rw [if_neg (by omega)]) (Ev.now _)
theorem space_mark (a b : Int) (l2 : List Int) (l3 : List H) (l4 : List Int) (s : Int) (h0 : 0 ≤ s) (hs : s ≤ 1048576) (h2 : l2.length ≤ 1048576) (h3 : l3.length ≤ 1048576) (h4 : l4.length ≤ 1048576) :
    Ev (fun k => laws_markSpace.f k a b l2 l3 l4 s) (s + l2.length + 2 * l3.length + l4.length, stone (fun a => a) s 1 l2.length, stone mkHeld (s + l2.length) 2 l3.length, stone (fun a => a) (s + l2.length + 2 * l3.length) 1 l4.length) := by
  unfold laws_markSpace.f
  have e1 := ints_mark l2 s h0 (by omega)
  have e2 := helds_mark l3 (s + l2.length) (by omega) (by omega)
  have e3 := ints_mark l4 (s + l2.length + 2 * l3.length) (by omega) (by omega)
  rw [show s + 1 * (l2.length : Int) = s + l2.length by omega] at e1
  rw [show s + (l2.length : Int) + 2 * (l3.length : Int) + 1 * (l4.length : Int) = s + l2.length + 2 * l3.length + l4.length by omega] at e3
  exact Ev.bind e1 (Ev.bind e2 (Ev.bind e3 (Ev.now _)))
end Go.Proofs.Ytahdokhgmanbpaa.MarkSfE
