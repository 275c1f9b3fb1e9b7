/- Texts and entries: likeness, marks; plain lemmas. -/
import Derived.Test.YtopajfpfjfbjcaaXP10
import Derived.Test.YtopajfpfjfbjcaaXP11
import Derived.Test.YtopajfpfjfbjcaaXP12
import Derived.Test.YtopajfpfjfbjcaaMarkTP
namespace Go.Proofs.Ytopajfpfjfbjcaa.MarkPP
open Go Go.RowKit Go.Proofs.Ytopajfpfjfbjcaa.XP Go.Proofs.YtopajfpfjfbjcaaW.PrintWords Go.Proofs.YtopajfpfjfbjcaaW.PrintLast Go.Proofs.YtopajfpfjfbjcaaW.PrintMore Go.Proofs.Ytopajfpfjfbjcaa.Aid Go.Proofs.Ytopajfpfjfbjcaa.Loops Go.Proofs.Ytopajfpfjfbjcaa.MarkE Go.Proofs.Ytopajfpfjfbjcaa.MarkTP
set_option linter.unusedVariables false
set_option linter.unusedSimpArgs false
abbrev E := S70
theorem texts_same (xs : List ByteArray) (hl : xs.length ≤ 1048576) : Ev (fun k => laws_eqStringS.f k xs xs) true := by
  unfold laws_eqStringS.f
  refine Ev.congr (fun k => if_pos rfl) ?_
  exact eqP (fun k i => laws_eqStringS.l0 k xs xs i) xs.length (xs.length : Int) (fun i => (rdOf ByteArray.empty xs i).toList = (rdOf ByteArray.empty xs i).toList) (by omega) rfl (fun _ => rfl) (fun _ _ => rfl)
theorem entries_same (xs : List E) (hl : xs.length ≤ 1048576) : Ev (fun k => laws_eqEntryS.f k xs xs) true := by
  unfold laws_eqEntryS.f
  refine Ev.congr (fun k => if_pos rfl) ?_
  exact eqE (fun k i => laws_eqEntryS.l0 k xs xs i) xs.length xs.length (fun _ i => laws_eqEntry.f (rd_T70 xs i).f0 (rd_T70 xs i).f1 (rd_T70 xs i).f0 (rd_T70 xs i).f1) (by omega) rfl (fun i hi => by unfold laws_eqEntry.f; rw [if_pos rfl, if_pos rfl]; exact Ev.now _) (fun _ _ => rfl)
noncomputable def mkE (a : Int) : E := ⟨mt a, mt (a + 1)⟩
theorem texts_mark (xs : List ByteArray) (s : Int) (h0 : 0 ≤ s) (hc : s + 1 * xs.length ≤ 536870912) : Ev (fun k => laws_markStringS.f k xs s) (s + 1 * xs.length, stone mt s 1 xs.length) := by
  unfold laws_markStringS.f
  refine markE (fun k xs a i => laws_markStringS.l0 k xs a i) xs.length s 1 mt h0 (by omega) hc (fun i ys a r hy hi ha hb hr => ?_) (fun ys a hy => ?_) xs rfl
  · have e1 : wrap64 (a + 1) = a + 1 := wrap_id (by omega) (by omega)
    refine Ev.step (f := fun k => (laws_markText.f k a).bind fun t => laws_markStringS.l0 k (ys.set i t) (a + 1) ((i + 1 : Nat) : Int)) (fun k => ?_) (Ev.bind (mt_ev a (by omega)) hr)
    simp only [laws_markStringS.l0]
    rw [if_pos (by omega)]
    simp only [Int.toNat_natCast, e1, next_ (n := xs.length) hi (by omega)]
    congr 1 <;> (funext t; rw [if_pos (by omega)])
  · exact Ev.step (f := fun _ => some (a, ys)) (fun k => by simp only [laws_markStringS.l0]; rw [if_neg (by omega)]) (Ev.now _)
theorem entries_mark (xs : List E) (s : Int) (h0 : 0 ≤ s) (hc : s + 2 * xs.length ≤ 536870912) : Ev (fun k => laws_markEntryS.f k xs s) (s + 2 * xs.length, stone mkE s 2 xs.length) := by
  unfold laws_markEntryS.f
  refine markE (fun k xs a i => laws_markEntryS.l0 k xs a i) xs.length s 2 mkE h0 (by omega) hc (fun i ys a r hy hi ha hb hr => ?_) (fun ys a hy => ?_) xs rfl
  · have g : ∀ (y : E), rd_T70 (ys.set i y) (i : Int) = y := fun y => by
      show (ys.set i y).getD (i : Int).toNat z70 = y
      rw [Int.toNat_natCast]
      exact set_get ys i y z70 (by omega)
    have e1 : wrap64 (a + 1) = a + 1 := wrap_id (by omega) (by omega)
    have e2 : wrap64 (a + 1 + 1) = a + 2 := by rw [wrap_id (by omega) (by omega)]; omega
    refine Ev.step (f := fun k => (laws_markText.f k a).bind fun t => (laws_markText.f k (a + 1)).bind fun u => laws_markEntryS.l0 k (ys.set i (⟨t, u⟩ : E)) (a + 2) ((i + 1 : Nat) : Int)) (fun k => ?_) (Ev.bind (mt_ev a (by omega)) (Ev.bind (mt_ev (a + 1) (by omega)) hr))
    simp only [laws_markEntryS.l0, Option.bind_some]
    rw [if_pos (by omega)]
    simp only [Int.toNat_natCast, List.set_set, g, e1, e2, next_ (n := xs.length) hi (by omega)]
    congr 1 <;> (funext t; rw [if_pos (by omega)])
  · exact Ev.step (f := fun _ => some (a, ys)) (fun k => by simp only [laws_markEntryS.l0]; rw [if_neg (by omega)]) (Ev.now _)
theorem texts_held (n : Nat) (s : Int) (h0 : 0 ≤ s) (hc : s + 1 * n ≤ 536870912) : Ev (fun k => laws_heldStringS.f k (stone mt s 1 n) s) (s + 1 * n) := by
  have hl : (stone mt s 1 n).length = n := by simp [stone]
  unfold laws_heldStringS.f
  refine heldE (fun k a i => laws_heldStringS.l0 k (stone mt s 1 n) a i) n s 1 h0 (by omega) hc (fun i r hi hb ha hr => ?_) (fun a => ?_)
  · have g : rdOf ByteArray.empty (stone mt s 1 n) (i : Int) = mt (s + 1 * i) := by
      show (stone mt s 1 n).getD (i : Int).toNat ByteArray.empty = _
      rw [Int.toNat_natCast]
      exact stone_get mt s 1 n ByteArray.empty i hi
    refine Ev.step (f := fun k => (laws_markText.f k (s + 1 * (i : Int))).bind fun t => if (mt (s + 1 * (i : Int))).toList = t.toList then laws_heldStringS.l0 k (stone mt s 1 n) (s + 1 * (i : Int) + 1) ((i + 1 : Nat) : Int) else some (-1)) (fun k => ?_) (Ev.bind (mt_ev _ (by omega)) (Ev.congr (fun _ => if_pos rfl) hr))
    simp only [laws_heldStringS.l0]
    rw [hl, if_pos (by omega), if_pos (by omega), g, wrap_id (x := s + 1 * (i : Int) + 1) (by omega) (by omega), next_ (n := n) hi (by omega)]
  · exact Ev.step (f := fun _ => some a) (fun k => by simp only [laws_heldStringS.l0]; rw [hl, if_neg (by omega)]) (Ev.now _)
theorem entries_held (n : Nat) (s : Int) (h0 : 0 ≤ s) (hc : s + 2 * n ≤ 536870912) : Ev (fun k => laws_heldEntryS.f k (stone mkE s 2 n) s) (s + 2 * n) := by
  have hl : (stone mkE s 2 n).length = n := by simp [stone]
  unfold laws_heldEntryS.f
  refine heldE (fun k a i => laws_heldEntryS.l0 k (stone mkE s 2 n) a i) n s 2 h0 (by omega) hc (fun i r hi hb ha hr => ?_) (fun a => ?_)
  · have g : rd_T70 (stone mkE s 2 n) (i : Int) = mkE (s + 2 * i) := by
      show (stone mkE s 2 n).getD (i : Int).toNat z70 = _
      rw [Int.toNat_natCast]
      exact stone_get mkE s 2 n z70 i hi
    have e1 : wrap64 (s + 2 * (i : Int) + 1) = s + 2 * (i : Int) + 1 := wrap_id (by omega) (by omega)
    have e2 : wrap64 (s + 2 * (i : Int) + 1 + 1) = s + 2 * (i : Int) + 2 := by rw [wrap_id (by omega) (by omega)]; omega
    refine Ev.step (f := fun k => (laws_markText.f k (s + 2 * (i : Int))).bind fun t => if (mt (s + 2 * (i : Int))).toList = t.toList then ((laws_markText.f k (s + 2 * (i : Int) + 1)).bind fun u => if (mt (s + 2 * (i : Int) + 1)).toList = u.toList then laws_heldEntryS.l0 k (stone mkE s 2 n) (s + 2 * (i : Int) + 2) ((i + 1 : Nat) : Int) else some (-1)) else some (-1)) (fun k => ?_) (Ev.bind (mt_ev _ (by omega)) (Ev.congr (fun _ => if_pos rfl) (Ev.bind (mt_ev _ (by omega)) (Ev.congr (fun _ => if_pos rfl) hr))))
    simp only [laws_heldEntryS.l0]
    rw [hl, if_pos (by omega), if_pos (by omega), g, e1, e2, next_ (n := n) hi (by omega)]
    rfl
  · exact Ev.step (f := fun _ => some a) (fun k => by simp only [laws_heldEntryS.l0]; rw [hl, if_neg (by omega)]) (Ev.now _)
end Go.Proofs.Ytopajfpfjfbjcaa.MarkPP
