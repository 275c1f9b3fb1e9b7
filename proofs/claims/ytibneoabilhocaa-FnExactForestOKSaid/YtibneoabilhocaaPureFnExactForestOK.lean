/- For all forests within the law's size the program's ForestOK answers what the reference's answers, and the forest is unchanged; no condition. -/
import Derived.Test.YtibneoabilhocaaXOpenFnExactForestOK
import Derived.Test.YtibneoabilhocaaTree
namespace Go.Proofs.Ytibneoabilhocaa.fnExactForestOK.Pure
set_option maxRecDepth 100000
open Go Go.RowKit Go.Proofs.Ytibneoabilhocaa.XF Go.Proofs.YtibneoabilhocaaW.PrintWords Go.Proofs.YtibneoabilhocaaW.PrintLast Go.Proofs.YtibneoabilhocaaW.PrintMore Go.Proofs.Ytibneoabilhocaa.Opn Go.Proofs.Ytibneoabilhocaa.Tree
set_option linter.unusedVariables false

theorem FnExactForestOK : Pure := by
  intro b hd
  obtain ⟨l⟩ := b
  obtain ⟨hl, hx⟩ := hd
  have ll : l.length ≤ 9223372036854775807 := by simpa [maxLen] using hl
  have wl : ∀ x ∈ l, FitN x := fun x h => by
    obtain ⟨_, h1, h2, h3⟩ := hx x h
    exact ⟨⟨by simpa [maxLen] using h1.1, fun y hy => by simpa [Wfstr, maxLen] using h1.2 y hy⟩, ⟨by simpa [maxLen] using h2.1, fun y hy => by simpa [Wfstr, maxLen] using h2.2 y hy⟩, by simpa [maxLen] using h3.1⟩
  refine Ev.rounds ?_
  unfold laws_FnExactForestOK.f
  obtain ⟨r, h1, h3⟩ := forest_size l ll wl
  refine Ev.bind h1 ?_
  by_cases hr : r < 0
  · exact Ev.congr (fun k => if_pos hr) (Ev.now _)
  refine Ev.congr (fun k => if_neg hr) ?_
  obtain ⟨s1, s2⟩ := h3 (by omega)
  have c := forest_copy l s1 s2
  have e1 : (l.map conv).length ≤ 1048576 := by rw [List.length_map]; exact s1
  have e2 : ∀ x ∈ l.map conv, Small x := fun x hx => by
    obtain ⟨y, hy, rfl⟩ := List.mem_map.1 hx
    exact s2 y hy
  generalize l.map conv = l' at c e1 e2
  refine Ev.bind c (Ev.bind (ok_spec l' e1 e2) (Ev.bind c (Ev.bind (ok_impl l' e1) ?_)))
  refine Ev.congr (fun k => if_neg (by simp)) (Ev.bind c (Ev.bind (forest_same l' e1 e2) ?_))
  exact Ev.congr (fun k => if_pos rfl) (Ev.now _)

end Go.Proofs.Ytibneoabilhocaa.fnExactForestOK.Pure
