/- For all histories within the law's size the program's HistoryOK answers what the reference's answers, and the history is unchanged; no condition. -/
import Derived.Test.YtlhmcdafnlcioaaXOpenFnExactHistoryOK
import Derived.Test.YtlhmcdafnlcioaaHistH
namespace Go.Proofs.Ytlhmcdafnlcioaa.fnExactHistoryOK.Pure
set_option maxRecDepth 100000
open Go Go.RowKit Go.Proofs.Ytlhmcdafnlcioaa.XH Go.Proofs.YtlhmcdafnlcioaaW.PrintWords Go.Proofs.YtlhmcdafnlcioaaW.PrintLast Go.Proofs.YtlhmcdafnlcioaaW.PrintMore Go.Proofs.Ytlhmcdafnlcioaa.Opn Go.Proofs.Ytlhmcdafnlcioaa.HistH
set_option linter.unusedVariables false

theorem FnExactHistoryOK : Pure := by
  intro l hd
  have ll : l.length ≤ 9223372036854775807 := by simpa [maxLen] using hd.1
  have wl : ∀ x ∈ l, x.f2.size ≤ 9223372036854775807 ∧ x.f3.size ≤ 9223372036854775807 := fun x hx => by simpa [Wfstr, maxLen] using (hd.2 x hx).2.2
  refine Ev.rounds ?_
  unfold laws_FnExactHistoryOK.f
  obtain ⟨r, h1, h2, h3⟩ := hops_size l ll wl 1048576 (by omega) (by omega)
  refine Ev.bind h1 ?_
  by_cases hr : r < 0
  · exact Ev.congr (fun k => if_pos hr) (Ev.now _)
  refine Ev.congr (fun k => if_neg hr) ?_
  have s1 := h3 (by omega)
  have s2 : (l.map conv).length ≤ 1048576 := by rw [List.length_map]; exact s1
  have c := hops_copy l s1
  refine Ev.bind c (Ev.bind (ok_spec (l.map conv) s2) (Ev.bind c (Ev.bind (Ev.congr (fun _ => ok_impl (l.map conv)) (Ev.now _)) ?_)))
  refine Ev.congr (fun k => if_neg (by simp)) (Ev.bind c (Ev.bind (hops_same (l.map conv) s2) ?_))
  exact Ev.congr (fun k => if_pos rfl) (Ev.now _)

end Go.Proofs.Ytlhmcdafnlcioaa.fnExactHistoryOK.Pure
