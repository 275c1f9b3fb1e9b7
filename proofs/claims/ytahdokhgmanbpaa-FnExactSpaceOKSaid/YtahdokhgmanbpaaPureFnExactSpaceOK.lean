/- For all spaces within the law's size the program's SpaceOK answers what the reference's answers, and the space is unchanged; no condition. -/
import Derived.Test.YtahdokhgmanbpaaXOpenFnExactSpaceOK
import Derived.Test.YtahdokhgmanbpaaSpaQ
namespace Go.Proofs.Ytahdokhgmanbpaa.fnExactSpaceOK.Pure
set_option maxRecDepth 100000
open Go Go.RowKit Go.Proofs.Ytahdokhgmanbpaa.XQ Go.Proofs.YtahdokhgmanbpaaW.PrintWords Go.Proofs.YtahdokhgmanbpaaW.PrintLast Go.Proofs.YtahdokhgmanbpaaW.PrintMore Go.Proofs.Ytahdokhgmanbpaa.Opn Go.Proofs.Ytahdokhgmanbpaa.SpaQ
set_option linter.unusedVariables false

theorem FnExactSpaceOK : Pure := by
  intro s hw
  obtain ⟨a, b, l2, l3, l4⟩ := s
  obtain ⟨-, -, h2, h3, h4⟩ := hw
  have h2' : l2.length ≤ 9223372036854775807 := by simpa [maxLen] using h2.1
  have h3' : l3.length ≤ 9223372036854775807 := by simpa [maxLen] using h3.1
  have h4' : l4.length ≤ 9223372036854775807 := by simpa [maxLen] using h4.1
  clear h2 h3 h4
  refine Ev.rounds ?_
  unfold laws_FnExactSpaceOK.f
  obtain ⟨r, h1, hr3⟩ := space_size a b l2 l3 l4 h2' h3' h4'
  refine Ev.bind (Ev.congr (fun _ => h1) (Ev.now _)) ?_
  by_cases hr : r < 0
  · exact Ev.congr (fun k => if_pos hr) (Ev.now _)
  refine Ev.congr (fun k => if_neg hr) ?_
  obtain ⟨s2, s3, s4⟩ := hr3 (by omega)
  have c := space_copy a b l2 l3 l4 s2 s3 s4
  have s3' : (l3.map conv).length ≤ 1048576 := by rw [List.length_map]; exact s3
  generalize l3.map conv = l3' at c s3'
  obtain ⟨t, e1, e2, -⟩ := ok_both a b l2 l3' l4 s2 s3' s4
  refine Ev.bind c (Ev.bind (Ev.congr (fun _ => e1) (Ev.now _)) (Ev.bind c (Ev.bind (Ev.congr (fun _ => e2) (Ev.now _)) ?_)))
  refine Ev.congr (fun k => if_neg (by simp)) (Ev.bind c (Ev.bind (space_same a b l2 l3' l4 s2 s3' s4) ?_))
  exact Ev.congr (fun k => if_pos rfl) (Ev.now _)

end Go.Proofs.Ytahdokhgmanbpaa.fnExactSpaceOK.Pure
