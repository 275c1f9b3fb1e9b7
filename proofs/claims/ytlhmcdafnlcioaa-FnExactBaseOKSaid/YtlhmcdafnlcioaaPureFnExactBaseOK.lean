/- For all bases within the law's size the program's BaseOK answers what the reference's answers, and the base is unchanged; no condition. -/
import Derived.Test.YtlhmcdafnlcioaaXOpenFnExactBaseOK
import Derived.Test.YtlhmcdafnlcioaaBaseB
namespace Go.Proofs.Ytlhmcdafnlcioaa.fnExactBaseOK.Pure
set_option maxRecDepth 100000
open Go Go.RowKit Go.Proofs.Ytlhmcdafnlcioaa.XB Go.Proofs.YtlhmcdafnlcioaaW.PrintWords Go.Proofs.YtlhmcdafnlcioaaW.PrintLast Go.Proofs.YtlhmcdafnlcioaaW.PrintMore Go.Proofs.Ytlhmcdafnlcioaa.Opn Go.Proofs.Ytlhmcdafnlcioaa.BaseB
set_option linter.unusedVariables false

theorem FnExactBaseOK : Pure := by
  intro b hd
  obtain ⟨t, l, m⟩ := b
  obtain ⟨_, hl, hm⟩ := hd
  have ll : l.length ≤ 9223372036854775807 := by simpa [maxLen] using hl.1
  have wl : ∀ x ∈ l, x.f0.size ≤ 9223372036854775807 ∧ x.f3.size ≤ 9223372036854775807 := fun x hx => by
    have h := hl.2 x hx
    exact ⟨by simpa [Wfstr, maxLen] using h.1, by simpa [Wfstr, maxLen] using h.2.2.2⟩
  have lm : m.length ≤ 9223372036854775807 := by simpa [maxLen] using hm.1
  have wm : ∀ x ∈ m, FitX x := fun x hx => by
    have h := (hm.2 x hx).2.2
    exact ⟨by simpa [maxLen] using h.1, fun y hy => ⟨by simpa [Wfstr, maxLen] using (h.2 y hy).1, by simpa [Wfstr, maxLen] using (h.2 y hy).2.1⟩⟩
  refine Ev.rounds ?_
  unfold laws_FnExactBaseOK.f
  obtain ⟨r, h1, h3⟩ := base_size t l m ll wl lm wm
  refine Ev.bind h1 ?_
  by_cases hr : r < 0
  · exact Ev.congr (fun k => if_pos hr) (Ev.now _)
  refine Ev.congr (fun k => if_neg hr) ?_
  obtain ⟨s1, s2, s3⟩ := h3 (by omega)
  have c := base_copy t l m s1 s2 s3
  have e1 : (l.map convV).length ≤ 1048576 := by rw [List.length_map]; exact s1
  have e2 : (m.map convX).length ≤ 1048576 := by rw [List.length_map]; exact s2
  have e3 : ∀ x ∈ m.map convX, x.f2.length ≤ 1048576 := fun x hx => by
    obtain ⟨y, hy, rfl⟩ := List.mem_map.1 hx
    show (y.f2.map convW).length ≤ 1048576
    rw [List.length_map]
    exact s3 y hy
  generalize l.map convV = l' at c e1
  generalize m.map convX = m' at c e2 e3
  refine Ev.bind c (Ev.bind (ok_spec t l' m' e1 e2) (Ev.bind c (Ev.bind (Ev.congr (fun _ => ok_impl t l' m') (Ev.now _)) ?_)))
  refine Ev.congr (fun k => if_neg (by simp)) (Ev.bind c (Ev.bind (base_same t l' m' e1 e2 e3) ?_))
  exact Ev.congr (fun k => if_pos rfl) (Ev.now _)

end Go.Proofs.Ytlhmcdafnlcioaa.fnExactBaseOK.Pure
