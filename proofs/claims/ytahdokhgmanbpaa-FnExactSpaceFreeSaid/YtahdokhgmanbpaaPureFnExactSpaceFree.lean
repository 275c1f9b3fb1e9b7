/- For all spaces within the law's size the program's SpaceFree answers what the reference's answers, also behind a write into what was handed over and handed back, and the space is unchanged; no condition. -/
import Derived.Test.YtahdokhgmanbpaaXOpenFnExactSpaceFree
import Derived.Test.YtahdokhgmanbpaaFreeE
import Derived.Test.YtahdokhgmanbpaaMarkSfE
namespace Go.Proofs.Ytahdokhgmanbpaa.fnExactSpaceFree.Pure
set_option maxRecDepth 100000
open Go Go.RowKit Go.Proofs.Ytahdokhgmanbpaa.XE Go.Proofs.YtahdokhgmanbpaaW.PrintWords Go.Proofs.YtahdokhgmanbpaaW.PrintLast Go.Proofs.YtahdokhgmanbpaaW.PrintMore Go.Proofs.Ytahdokhgmanbpaa.Opn Go.Proofs.Ytahdokhgmanbpaa.SpaE Go.Proofs.Ytahdokhgmanbpaa.FreeE Go.Proofs.Ytahdokhgmanbpaa.MarkE Go.Proofs.Ytahdokhgmanbpaa.MarkIE Go.Proofs.Ytahdokhgmanbpaa.MarkSfE
set_option linter.unusedVariables false
set_option linter.unusedSimpArgs false

theorem both (a b : Int) (l2 : List Int) (l3 : List H) (l4 : List Int) (h2 : l2.length ≤ 1048576) (h3 : l3.length ≤ 1048576) (h4 : l4.length ≤ 1048576) :
    ∃ q : List Int × Int, Ev (fun k => spec_SpaceFree.f k a b l2 l3 l4) q ∧ Ev (fun k => impl_SpaceFree.f k a b l2 l3 l4) q ∧ q.1.length ≤ 64 := by
  obtain ⟨t, e1, e2, hg⟩ := ok_both a b l2 l3 l4 h2 h3 h4
  unfold spec_SpaceFree.f impl_SpaceFree.f
  cases t with
  | false => exact ⟨([], 1), Ev.bind (Ev.congr (fun _ => e1) (Ev.now _)) (Ev.congr (fun _ => if_neg (by simp)) (Ev.now _)), Ev.bind (Ev.congr (fun _ => e2) (Ev.now _)) (Ev.congr (fun _ => if_neg (by simp)) (Ev.now _)), by simp⟩
  | true =>
    have g := hg.1 rfl
    have g0 := g.a0
    have g1 := g.a1
    have hl := free_len a (by omega) l2 (l3.map (·.f0))
    exact ⟨(free a l2 (l3.map (·.f0)), 0), Ev.bind (Ev.congr (fun _ => e1) (Ev.now _)) (Ev.congr (fun _ => if_pos rfl) (Ev.bind (spec_free a b l2 l4 l3 (by omega) g1 h2 h3) (Ev.now _))), Ev.bind (Ev.congr (fun _ => e2) (Ev.now _)) (Ev.congr (fun _ => if_pos rfl) (Ev.bind (impl_free a b l2 l4 l3 (by omega) g1 h2 h3) (Ev.now _))), by simp only; omega⟩

theorem FnExactSpaceFree : Pure := by
  intro s hw
  obtain ⟨a, b, l2, l3, l4⟩ := s
  obtain ⟨-, -, h2, h3, h4⟩ := hw
  have h2' : l2.length ≤ 9223372036854775807 := by simpa [maxLen] using h2.1
  have h3' : l3.length ≤ 9223372036854775807 := by simpa [maxLen] using h3.1
  have h4' : l4.length ≤ 9223372036854775807 := by simpa [maxLen] using h4.1
  clear h2 h3 h4
  refine Ev.rounds ?_
  unfold laws_FnExactSpaceFree.f
  obtain ⟨r, h1, hr3⟩ := space_size a b l2 l3 l4 h2' h3' h4'
  refine Ev.bind (Ev.congr (fun _ => h1) (Ev.now _)) ?_
  by_cases hr : r < 0
  · exact Ev.congr (fun k => if_pos hr) (Ev.now _)
  refine Ev.congr (fun k => if_neg hr) ?_
  obtain ⟨s2, s3, s4⟩ := hr3 (by omega)
  have c := space_copy a b l2 l3 l4 s2 s3 s4
  have s3' : (l3.map conv).length ≤ 1048576 := by rw [List.length_map]; exact s3
  generalize l3.map conv = l3' at c s3'
  obtain ⟨⟨g, e⟩, hs, hi, hol⟩ := both a b l2 l3' l4 s2 s3' s4
  simp only at hol
  have hsame := SpaE.ints_same g (by omega)
  have n1 : (e != e) = false := by simp
  have mk := space_mark a b l2 l3' l4 1 (by omega) (by omega) s2 s3' s4
  have mg := ints_mark g 1 (by omega) (by omega)
  have hg := ints_held g.length 1 (by omega) (by omega)
  refine Ev.bind c (Ev.bind hs (Ev.bind c (Ev.bind hi (Ev.bind hsame (Ev.congr (fun _ => if_pos rfl) ?_)))))
  simp only [n1]
  refine Ev.step (fun k => laws_FnExactSpaceFree.j0.eq_2 ..) (Ev.congr (fun _ => if_neg (by simp)) (Ev.bind c (Ev.bind (space_same a b l2 l3' l4 s2 s3' s4) (Ev.congr (fun _ => if_pos rfl) (Ev.bind mk (Ev.congr (fun _ => if_neg (by first | omega | (simp only; omega))) (Ev.bind hsame (Ev.congr (fun _ => if_pos rfl) ?_))))))))
  simp only [n1]
  refine Ev.step (fun k => laws_FnExactSpaceFree.j1.eq_2 ..) (Ev.congr (fun _ => if_neg (by simp)) (Ev.bind mg (Ev.bind hg (Ev.congr (fun _ => if_neg (by first | omega | (simp only; omega))) (Ev.congr (fun _ => if_pos rfl) (Ev.bind c (Ev.bind hi (Ev.bind hsame (Ev.congr (fun _ => if_pos rfl) ?_)))))))))
  simp only [n1]
  refine Ev.step (fun k => laws_FnExactSpaceFree.j2.eq_2 ..) (Ev.congr (fun _ => if_neg (by simp)) (Ev.bind hg (Ev.congr (fun _ => if_neg (by first | omega | (simp only; omega))) (Ev.congr (fun _ => if_pos rfl) (Ev.now _)))))

end Go.Proofs.Ytahdokhgmanbpaa.fnExactSpaceFree.Pure
