/- For all values within the law's size the program's ValueText answers what the reference's answers; no condition. -/
import Derived.Test.YtnhfhafbdbmkpaaDoorXOpenFnExactValueText
import Derived.Test.YtnhfhafbdbmkpaaDoorTextT
namespace Go.Proofs.YtnhfhafbdbmkpaaDoor.fnExactValueText.Pure
open Go Go.RowKit Go.Proofs.YtnhfhafbdbmkpaaDoor.XT Go.Proofs.YtnhfhafbdbmkpaaDoorW.PrintWords Go.Proofs.YtnhfhafbdbmkpaaDoorW.PrintLast Go.Proofs.YtnhfhafbdbmkpaaDoorW.PrintMore Go.Proofs.YtnhfhafbdbmkpaaDoor.Opn
open Go.Proofs.YtnhfhafbdbmkpaaDoor.Aid Go.Proofs.YtnhfhafbdbmkpaaDoor.TextT

theorem FnExactValueText : Pure := by
  intro x hx
  have hn := wf64 hx.2.1
  refine Ev.rounds ?_
  unfold laws_FnExactValueText.f
  have hsz : ∃ r, laws_szValue.f x.f0 x.f1 x.f2 1048576 = some r := by
    unfold laws_szValue.f
    split <;> exact ⟨_, rfl⟩
  obtain ⟨r, hr⟩ := hsz
  refine Ev.bind (Ev.congr (fun _ => hr) (Ev.now _)) ?_
  by_cases h0 : r < 0
  · exact Ev.congr (fun _ => if_pos h0) (Ev.now _)
  refine Ev.congr (fun _ => if_neg h0) ?_
  have hc : laws_toValue.f x.f0 x.f1 x.f2 = some (x.f0, x.f1, x.f2) := rfl
  suffices hp : ∃ a, Ev (fun k => spec_ValueText.f k x.f0 x.f1 x.f2) a ∧ Ev (fun k => impl_ValueText.f k x.f0 x.f1 x.f2) a by
    obtain ⟨a, h1, h2⟩ := hp
    refine Ev.bind (Ev.congr (fun _ => hc) (Ev.now _)) (Ev.bind h1 (Ev.bind (Ev.congr (fun _ => hc) (Ev.now _)) (Ev.bind h2 ?_)))
    exact Ev.congr (fun _ => if_pos rfl) (Ev.congr (fun _ => if_pos rfl) (Ev.now _))
  obtain ⟨b, h1, h2⟩ := ok_alike x.f0 x.f1 x.f2
  unfold spec_ValueText.f impl_ValueText.f
  cases b with
  | false => exact ⟨_, Ev.bind (Ev.congr (fun _ => h1) (Ev.now _)) (Ev.congr (fun _ => if_neg (by simp)) (Ev.now _)), Ev.bind (Ev.congr (fun _ => h2) (Ev.now _)) (Ev.congr (fun _ => if_neg (by simp)) (Ev.now _))⟩
  | true =>
    exact ⟨_, Ev.bind (Ev.congr (fun _ => h1) (Ev.now _)) (Ev.congr (fun _ => if_pos rfl) (Ev.bind (spec_lit x.f0 x.f1 x.f2 hn.1 hn.2 h2) (Ev.now _))), Ev.bind (Ev.congr (fun _ => h2) (Ev.now _)) (Ev.congr (fun _ => if_pos rfl) (Ev.bind (impl_lit x.f0 x.f1 x.f2 hn.1 hn.2 h2) (Ev.now _)))⟩

end Go.Proofs.YtnhfhafbdbmkpaaDoor.fnExactValueText.Pure
