/- Edges and numbers: sizes, copies, likeness, marks; plain lemmas. -/
import Derived.Test.YtnoalobmkecjpaaXS1
import Derived.Test.YtnoalobmkecjpaaXS4
import Derived.Test.YtnoalobmkecjpaaXS5
import Derived.Test.YtnoalobmkecjpaaMarkIS
import Derived.Test.YtnoalobmkecjpaaSerS
namespace Go.Proofs.Ytnoalobmkecjpaa.EdgeS
open Go Go.RowKit Go.Proofs.Ytnoalobmkecjpaa.XS Go.Proofs.YtnoalobmkecjpaaW.PrintWords Go.Proofs.YtnoalobmkecjpaaW.PrintLast Go.Proofs.YtnoalobmkecjpaaW.PrintMore Go.Proofs.Ytnoalobmkecjpaa.Aid Go.Proofs.Ytnoalobmkecjpaa.Loops Go.Proofs.Ytnoalobmkecjpaa.MarkE Go.Proofs.Ytnoalobmkecjpaa.MarkIS Go.Proofs.Ytnoalobmkecjpaa.SerS
set_option linter.unusedVariables false
set_option linter.unusedSimpArgs false

abbrev E0 := S108
def conv (x : E0) : E := ⟨x.f0, x.f1⟩
theorem rdE0 (xs : List E0) (i : Nat) (h : i < xs.length) : rd_T108 xs (i : Int) = xs[i] := by
  simp [rd_T108, List.getD_eq_getElem?_getD, List.getElem?_eq_getElem h]
theorem edges_size (xs : List E0) (hl : xs.length ≤ 9223372036854775807) (a : Int) (h0 : 0 ≤ a) (h1 : a ≤ 1048576) :
    ∃ r, laws_szEdgeS.f xs a = some r ∧ r ≤ a ∧ (0 ≤ r → xs.length ≤ 1048576) := by
  unfold laws_szEdgeS.f
  rw [sz_text a xs.length h0 h1 (by omega) (by omega)]
  by_cases hn : a - (xs.length : Int) < 0
  · exact ⟨-1, if_pos hn, by omega, by omega⟩
  · exact ⟨_, if_neg hn, by omega, fun _ => by omega⟩
theorem ints_copy (xs : List Int) (hl : xs.length ≤ 1048576) : Ev (fun k => laws_toIntS.f k xs) xs := by
  unfold laws_toIntS.f
  refine Ev.congr (fun k => (if_pos (by omega)).trans (if_pos (by simp; omega))) ?_
  have h := copyE (fun k ys i => laws_toIntS.l0 k xs ys i) xs (fun x => x) (fun _ i => some (rd xs i)) 0 (by omega) (fun i hi => by rw [rdI xs i hi]; exact Ev.now _) (fun _ _ _ => rfl)
  simpa using h
theorem edges_copy (xs : List E0) (hl : xs.length ≤ 1048576) : Ev (fun k => laws_toEdgeS.f k xs) (xs.map conv) := by
  unfold laws_toEdgeS.f
  refine Ev.congr (fun k => (if_pos (by omega)).trans (if_pos (by simp; omega))) ?_
  have h := copyE (fun k ys i => laws_toEdgeS.l0 k xs ys i) xs conv (fun _ i => some ⟨(rd_T108 xs i).f0, (rd_T108 xs i).f1⟩) z59 (by omega) (fun i hi => by rw [rdE0 xs i hi]; exact Ev.now _) (fun _ _ _ => rfl)
  simpa using h
theorem edges_same (xs : List E) (hl : xs.length ≤ 1048576) : Ev (fun k => laws_eqEdgeS.f k xs xs) true := by
  unfold laws_eqEdgeS.f
  refine Ev.congr (fun k => if_pos rfl) ?_
  exact eqE (fun k i => laws_eqEdgeS.l0 k xs xs i) xs.length xs.length (fun _ i => laws_eqEdge.f (rd_T59 xs i).f0 (rd_T59 xs i).f1 (rd_T59 xs i).f0 (rd_T59 xs i).f1) (by omega) rfl (fun i hi => by unfold laws_eqEdge.f; rw [if_pos rfl, if_pos rfl]; exact Ev.now _) (fun _ _ => rfl)
def mkEdge (a : Int) : E := ⟨a, a + 1⟩
theorem edges_mark (xs : List E) (s : Int) (h0 : 0 ≤ s) (hc : s + 2 * xs.length ≤ 536870912) : Ev (fun k => laws_markEdgeS.f k xs s) (s + 2 * xs.length, stone mkEdge s 2 xs.length) := by
  unfold laws_markEdgeS.f
  refine markE (fun k xs a i => laws_markEdgeS.l0 k xs a i) xs.length s 2 mkEdge h0 (by omega) hc (fun i ys a r hy hi ha hb hr => ?_) (fun ys a hy => ?_) xs rfl
  · have g : ∀ (y : E), rd_T59 (ys.set i y) (i : Int) = y := fun y => by
      show (ys.set i y).getD (i : Int).toNat z59 = y
      rw [Int.toNat_natCast]
      exact set_get ys i y z59 (by omega)
    have e1 : wrap64 (a + 1) = a + 1 := wrap_id (by omega) (by omega)
    have e2 : wrap64 (a + 1 + 1) = a + 2 := by rw [wrap_id (by omega) (by omega)]; omega
    refine Ev.step (fun k => ?_) hr
    simp only [laws_markEdgeS.l0, Option.bind_some]
    rw [if_pos (by omega), if_pos (by omega)]
    simp only [Int.toNat_natCast, List.set_set, g, e1, e2]
    rw [next_ (n := xs.length) hi (by omega)]
    rfl
  · exact Ev.step (f := fun _ => some (a, ys)) (fun k => by simp only [laws_markEdgeS.l0]; rw [if_neg (by omega)]) (Ev.now _)
end Go.Proofs.Ytnoalobmkecjpaa.EdgeS
