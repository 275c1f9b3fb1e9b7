/- For all texts within the law's size the program's ReadValue answers what the reference's answers; no condition. -/
import Derived.Test.YtnhfhafbdbmkpaaDoorBothV
namespace Go.Proofs.YtnhfhafbdbmkpaaDoor.fnExactReadValue.Pure
open Go Go.RowKit Go.Proofs.YtnhfhafbdbmkpaaDoor.XV Go.Proofs.YtnhfhafbdbmkpaaDoorW.PrintWords Go.Proofs.YtnhfhafbdbmkpaaDoorW.PrintLast Go.Proofs.YtnhfhafbdbmkpaaDoorW.PrintMore
open Go.Proofs.YtnhfhafbdbmkpaaDoor.Aid Go.Proofs.YtnhfhafbdbmkpaaDoor.TextV Go.Proofs.YtnhfhafbdbmkpaaDoor.ReadV Go.Proofs.YtnhfhafbdbmkpaaDoor.BothV

theorem both (t : ByteArray) : ∃ o, Ev (fun k => spec_ReadValue.f k t) o ∧ Ev (fun k => impl_ReadValue.f k t) o := by
  unfold spec_ReadValue.f impl_ReadValue.f
  by_cases hb : (t.size : Int) > 65536
  · exact ⟨_, Ev.congr (fun _ => if_pos hb) (Ev.now _), Ev.congr (fun _ => if_pos hb) (Ev.now _)⟩
  have hs : t.size ≤ 65536 := by omega
  have hS := spec_sread t hs
  have hI := impl_iread t hs
  have hr := iread_range t
  have hA := agree t hs
  unfold Agree at hA
  obtain ⟨b, hok⟩ := ok_total (iread t).1 (iread t).2.1 (iread t).2.2
  rcases hA with ⟨a1, a2, a3, a4⟩ | ⟨a1, a2⟩
  · refine ⟨((iread t).1, (iread t).2.1, (iread t).2.2, 0), ?_, ?_⟩
    · refine Ev.congr (fun _ => if_neg hb) (Ev.bind hS (Ev.congr (fun _ => if_pos a1) ?_))
      rw [a2]
      exact Ev.now _
    · refine Ev.congr (fun _ => if_neg hb) (Ev.bind hI (Ev.bind (Ev.congr (fun _ => a3) (Ev.now _)) (Ev.congr (fun _ => if_pos rfl) (Ev.bind (impl_lit _ _ _ hr.1 hr.2 a3) ?_))))
      exact Ev.congr (fun _ => if_pos ((toList_iff _ _).2 a4)) (Ev.now _)
  · refine ⟨(0, 0, ⟨#[]⟩, 3), ?_, ?_⟩
    · refine Ev.congr (fun _ => if_neg hb) (Ev.bind hS (Ev.congr (fun _ => if_neg (by rw [a1]; decide)) (Ev.now _)))
    · refine Ev.congr (fun _ => if_neg hb) (Ev.bind hI (Ev.bind (Ev.congr (fun _ => hok) (Ev.now _)) ?_))
      cases b with
      | false => exact Ev.congr (fun _ => if_neg (by decide)) (Ev.now _)
      | true =>
        refine Ev.congr (fun _ => if_pos rfl) (Ev.bind (impl_lit _ _ _ hr.1 hr.2 hok) ?_)
        exact Ev.congr (fun _ => if_neg (fun h => a2 ⟨hok, (toList_iff _ _).1 h⟩)) (Ev.now _)
theorem FnExactReadValue : laws_FnExactReadValue.Pure := by
  intro t _
  refine Ev.rounds ?_
  unfold laws_FnExactReadValue.f
  by_cases h0 : (t.size : Int) > 1048576
  · exact Ev.congr (fun _ => if_pos h0) (Ev.now _)
  refine Ev.congr (fun _ => if_neg h0) ?_
  obtain ⟨o, h1, h2⟩ := both t
  refine Ev.bind h1 (Ev.bind h2 ?_)
  have he : laws_eqValue.f o.1 o.2.1 o.2.2.1 o.1 o.2.1 o.2.2.1 = some true := by
    unfold laws_eqValue.f
    rw [if_pos rfl, if_pos rfl, if_pos rfl]
  exact Ev.bind (Ev.congr (fun _ => he) (Ev.now _)) (Ev.congr (fun _ => if_pos rfl) (Ev.congr (fun _ => if_pos rfl) (Ev.now _)))
end Go.Proofs.YtnhfhafbdbmkpaaDoor.fnExactReadValue.Pure
