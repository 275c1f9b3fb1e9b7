/- For all nodes and edges within the law's size the program's SerialOrder answers what the reference's answers, also behind a write into what was handed over and handed back; no condition. -/
import Derived.Test.YtnoalobmkecjpaaXOpenFnExactSerialOrder
import Derived.Test.YtnoalobmkecjpaaEdgeS
namespace Go.Proofs.Ytnoalobmkecjpaa.fnExactSerialOrder.Pure
set_option maxRecDepth 100000
open Go Go.RowKit Go.Proofs.Ytnoalobmkecjpaa.XS Go.Proofs.YtnoalobmkecjpaaW.PrintWords Go.Proofs.YtnoalobmkecjpaaW.PrintLast Go.Proofs.YtnoalobmkecjpaaW.PrintMore Go.Proofs.Ytnoalobmkecjpaa.Opn Go.Proofs.Ytnoalobmkecjpaa.SerS Go.Proofs.Ytnoalobmkecjpaa.MarkE Go.Proofs.Ytnoalobmkecjpaa.MarkIS Go.Proofs.Ytnoalobmkecjpaa.EdgeS
set_option linter.unusedVariables false
set_option linter.unusedSimpArgs false

theorem FnExactSerialOrder : Pure := by
  intro l es0 hl he
  have ll : l.length ≤ 9223372036854775807 := by simpa [maxLen] using hl.1
  have le : es0.length ≤ 9223372036854775807 := by simpa [maxLen] using he.1
  clear hl he
  refine Ev.rounds ?_
  unfold laws_FnExactSerialOrder.f
  by_cases hbig : (l.length : Int) > 1048576
  · exact Ev.congr (fun k => if_pos hbig) (Ev.now _)
  refine Ev.congr (fun k => if_neg hbig) ?_
  have s1 : l.length ≤ 1048576 := by omega
  obtain ⟨r, h1, h2, h3⟩ := edges_size es0 le 1048576 (by omega) (by omega)
  refine Ev.bind (Ev.congr (fun _ => h1) (Ev.now _)) ?_
  by_cases hr : r < 0
  · exact Ev.congr (fun k => if_pos hr) (Ev.now _)
  refine Ev.congr (fun k => if_neg hr) ?_
  have s2 := h3 (by omega)
  have c1 := ints_copy l s1
  have c2 := edges_copy es0 s2
  have s3 : (es0.map conv).length ≤ 1048576 := by rw [List.length_map]; exact s2
  generalize es0.map conv = es at c2 s3
  have hs := spec_ev l es s1 s3
  have hi := impl_ev l es s1
  have hol := out_len l es
  generalize out l es = q at hs hi hol
  obtain ⟨g, e⟩ := q
  simp only at hol
  have hsame := ints_same g (by omega)
  have n1 : (e != e) = false := by simp
  have m1 := ints_mark l 1 (by omega) (by omega)
  have m2 := edges_mark es (1 + 1 * l.length) (by omega) (by omega)
  have mg := ints_mark g 1 (by omega) (by omega)
  have hg := ints_held g.length 1 (by omega) (by omega)
  refine Ev.bind c1 (Ev.bind c2 (Ev.bind hs (Ev.bind c1 (Ev.bind c2 (Ev.bind hi (Ev.bind hsame (Ev.congr (fun _ => if_pos rfl) ?_)))))))
  simp only [n1]
  refine Ev.step (fun k => laws_FnExactSerialOrder.j0.eq_2 ..) (Ev.congr (fun _ => if_neg (by simp)) (Ev.bind c1 (Ev.bind (ints_same l s1) (Ev.congr (fun _ => if_pos rfl) (Ev.bind c2 (Ev.bind (edges_same es s3) (Ev.congr (fun _ => if_pos rfl) (Ev.bind m1 (Ev.bind m2 (Ev.congr (fun _ => if_neg (by first | omega | (simp only; omega))) (Ev.bind hsame (Ev.congr (fun _ => if_pos rfl) ?_))))))))))))
  simp only [n1]
  refine Ev.step (fun k => laws_FnExactSerialOrder.j1.eq_2 ..) (Ev.congr (fun _ => if_neg (by simp)) (Ev.bind mg (Ev.bind hg (Ev.congr (fun _ => if_neg (by first | omega | (simp only; omega))) (Ev.congr (fun _ => if_pos rfl) (Ev.bind c1 (Ev.bind c2 (Ev.bind hi (Ev.bind hsame (Ev.congr (fun _ => if_pos rfl) ?_))))))))))
  simp only [n1]
  refine Ev.step (fun k => laws_FnExactSerialOrder.j2.eq_2 ..) (Ev.congr (fun _ => if_neg (by simp)) (Ev.bind hg (Ev.congr (fun _ => if_neg (by first | omega | (simp only; omega))) (Ev.congr (fun _ => if_pos rfl) (Ev.now _)))))

end Go.Proofs.Ytnoalobmkecjpaa.fnExactSerialOrder.Pure
