/- For every meta the program's MetaBytes answers what the reference's answers; no condition. -/
import Derived.Test.YtagdjkdnblpghaaXOpenFnExactMetaBytes
import Derived.Test.YtagdjkdnblpghaaMetaM
namespace Go.Proofs.Ytagdjkdnblpghaa.fnExactMetaBytes.Pure
open Go Go.RowKit Go.Proofs.Ytagdjkdnblpghaa.XM Go.Proofs.YtagdjkdnblpghaaW.PrintWords Go.Proofs.YtagdjkdnblpghaaW.PrintLast Go.Proofs.YtagdjkdnblpghaaW.PrintMore Go.Proofs.Ytagdjkdnblpghaa.Opn Go.Proofs.Ytagdjkdnblpghaa.MetaM
set_option linter.unusedVariables false

theorem FnExactMetaBytes : Pure := by
  intro x0 _
  obtain ⟨e, f, l⟩ := x0
  refine Ev.rounds ?_
  unfold laws_FnExactMetaBytes.f
  suffices hp : ∃ r, Ev (fun k => spec_MetaBytes.f k e f l) r ∧ Ev (fun k => impl_MetaBytes.f k e f l) r by
    obtain ⟨r, h1, h2⟩ := hp
    refine Ev.bind (a := (e, f, l)) (Ev.now _) (Ev.bind h1 (Ev.bind (a := (e, f, l)) (Ev.now _) (Ev.bind h2 ?_)))
    exact Ev.congr (fun k => if_pos rfl) (Ev.congr (fun k => if_pos rfl) (Ev.now _))
  unfold spec_MetaBytes.f impl_MetaBytes.f
  simp only [spec_ok, impl_ok, Option.bind_some]
  cases h : ok e f l with
  | false =>
    simp only [Bool.false_eq_true, if_false]
    exact ⟨_, Ev.now _, Ev.now _⟩
  | true =>
    simp only [if_true]
    have hl : 0 ≤ l ∧ l ≤ 3000 := by
      unfold ok at h
      have := of_decide_eq_true h
      omega
    exact ⟨_, Ev.bind (f := fun _ t => some (t, (0 : Int))) (spec_meta e f l hl.1 hl.2) (Ev.now _), Ev.bind (f := fun _ t => some (t, (0 : Int))) (impl_meta e f l) (Ev.now _)⟩

end Go.Proofs.Ytagdjkdnblpghaa.fnExactMetaBytes.Pure
