/- For all histories within the law's size the program's PlayHistory answers what the reference's answers, in memory of its own, and the history is unchanged; no condition. -/
import Derived.Test.YtopajfpfjfbjcaaXOpenFnExactPlayHistory
import Derived.Test.YtopajfpfjfbjcaaPlayP
import Derived.Test.YtopajfpfjfbjcaaMarkHP
import Derived.Test.YtopajfpfjfbjcaaMarkPP
namespace Go.Proofs.Ytopajfpfjfbjcaa.fnExactPlayHistory.Pure
set_option maxRecDepth 100000
open Go Go.RowKit Go.Proofs.Ytopajfpfjfbjcaa.XP Go.Proofs.YtopajfpfjfbjcaaW.PrintWords Go.Proofs.YtopajfpfjfbjcaaW.PrintLast Go.Proofs.YtopajfpfjfbjcaaW.PrintMore Go.Proofs.Ytopajfpfjfbjcaa.Opn Go.Proofs.Ytopajfpfjfbjcaa.Aid Go.Proofs.Ytopajfpfjfbjcaa.Loops Go.Proofs.Ytopajfpfjfbjcaa.MarkE Go.Proofs.Ytopajfpfjfbjcaa.HistP Go.Proofs.Ytopajfpfjfbjcaa.PlayP Go.Proofs.Ytopajfpfjfbjcaa.MarkHP Go.Proofs.Ytopajfpfjfbjcaa.MarkPP
set_option linter.unusedVariables false

/-- ∀ (l0 : List (S44)), WfLS44 l0 → ∃ k, laws_FnExactPlayHistory.f k l0 = some true -/
theorem FnExactPlayHistory : Pure := by
  intro l hd
  have ll : l.length ≤ 9223372036854775807 := by simpa [maxLen] using hd.1
  have wl : ∀ x ∈ l, x.f2.size ≤ 9223372036854775807 ∧ x.f3.size ≤ 9223372036854775807 := fun x hx => by simpa [Wfstr, maxLen] using (hd.2 x hx).2.2
  refine Ev.rounds ?_
  unfold laws_FnExactPlayHistory.f
  obtain ⟨r, h1, h2, h3⟩ := hops_size l ll wl 1048576 (by omega) (by omega)
  refine Ev.bind h1 ?_
  by_cases hr : r < 0
  · exact Ev.congr (fun k => if_pos hr) (Ev.now _)
  refine Ev.congr (fun k => if_neg hr) ?_
  have s1 := h3 (by omega)
  have s2 : (l.map conv).length ≤ 1048576 := by rw [List.length_map]; exact s1
  have c := hops_copy l s1
  generalize l.map conv = m at c s2
  have hs := spec_ev m s2
  have hi := impl_ev m s2
  have hol := out_len m
  generalize out m = q at hs hi hol
  obtain ⟨g, p, e⟩ := q
  simp only at hol
  have hsame := texts_same g (by omega)
  have hsame2 := entries_same p (by omega)
  have n1 : (e != e) = false := by simp
  have mk := hops_mark m 1 (by omega) (by omega)
  have mg := texts_mark g 1 (by omega) (by omega)
  have mp := entries_mark p (1 + 1 * g.length) (by omega) (by omega)
  have hg := texts_held g.length 1 (by omega) (by omega)
  have hp := entries_held p.length (1 + 1 * g.length) (by omega) (by omega)
  refine Ev.bind c (Ev.bind hs (Ev.bind c (Ev.bind hi (Ev.bind hsame (Ev.congr (fun _ => if_pos rfl) (Ev.bind hsame2 (Ev.congr (fun _ => if_pos rfl) ?_)))))))
  simp only [n1]
  refine Ev.step (fun k => laws_FnExactPlayHistory.j0.eq_2 ..) (Ev.congr (fun _ => if_neg (by simp)) (Ev.bind c (Ev.bind (hops_same m s2) (Ev.congr (fun _ => if_pos rfl) (Ev.bind mk (Ev.congr (fun _ => if_neg (by first | omega | (simp only; omega))) (Ev.bind hsame (Ev.congr (fun _ => if_pos rfl) (Ev.bind hsame2 (Ev.congr (fun _ => if_pos rfl) ?_))))))))))
  simp only [n1]
  refine Ev.step (fun k => laws_FnExactPlayHistory.j1.eq_2 ..) (Ev.congr (fun _ => if_neg (by simp)) (Ev.bind mg (Ev.bind mp (Ev.bind hg (Ev.congr (fun _ => if_neg (by first | omega | (simp only; omega))) (Ev.bind hp (Ev.congr (fun _ => if_neg (by first | omega | (simp only; omega))) (Ev.congr (fun _ => if_pos rfl) (Ev.bind c (Ev.bind hi (Ev.bind hsame (Ev.congr (fun _ => if_pos rfl) (Ev.bind hsame2 (Ev.congr (fun _ => if_pos rfl) ?_))))))))))))))
  simp only [n1]
  refine Ev.step (fun k => laws_FnExactPlayHistory.j2.eq_2 ..) (Ev.congr (fun _ => if_neg (by simp)) (Ev.bind hg (Ev.congr (fun _ => if_neg (by first | omega | (simp only; omega))) (Ev.bind hp (Ev.congr (fun _ => if_neg (by first | omega | (simp only; omega))) (Ev.congr (fun _ => if_pos rfl) (Ev.now _)))))))

end Go.Proofs.Ytopajfpfjfbjcaa.fnExactPlayHistory.Pure
