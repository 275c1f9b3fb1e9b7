/- For all disks within the law's size the program's DiskOK answers what the reference's answers, and the disk is unchanged; no condition. -/
import Derived.Test.YtagdjkdnblpghaaXOpenFnExactDiskOK
import Derived.Test.YtagdjkdnblpghaaDiskD
namespace Go.Proofs.Ytagdjkdnblpghaa.fnExactDiskOK.Pure
open Go Go.RowKit Go.Proofs.Ytagdjkdnblpghaa.XD Go.Proofs.YtagdjkdnblpghaaW.PrintWords Go.Proofs.YtagdjkdnblpghaaW.PrintLast Go.Proofs.YtagdjkdnblpghaaW.PrintMore Go.Proofs.Ytagdjkdnblpghaa.Opn Go.Proofs.Ytagdjkdnblpghaa.DiskD
set_option linter.unusedVariables false

theorem FnExactDiskOK : Pure := by
  intro d hd
  obtain ⟨l, m⟩ := d
  have ll : l.length ≤ 9223372036854775807 := by simpa [maxLen] using hd.1.1
  have wl : ∀ x ∈ l, x.size ≤ 9223372036854775807 := fun x hx => by simpa [Wfstr, maxLen] using hd.1.2 x hx
  have lm : m.length ≤ 9223372036854775807 := by simpa [maxLen] using hd.2.1
  have wm : ∀ x ∈ m, x.f1.size ≤ 9223372036854775807 := fun x hx => by simpa [Wfstr, maxLen] using (hd.2.2 x hx).2
  refine Ev.rounds ?_
  unfold laws_FnExactDiskOK.f
  obtain ⟨r, h1, h2, h3⟩ := disk_size l m ll wl lm wm 1048576 (by omega) (by omega)
  refine Ev.bind h1 ?_
  by_cases hr : r < 0
  · exact Ev.congr (fun k => if_pos hr) (Ev.now _)
  refine Ev.congr (fun k => if_neg hr) ?_
  obtain ⟨s1, s2⟩ := h3 (by omega)
  have s3 : (m.map conv).length ≤ 1048576 := by rw [List.length_map]; exact s2
  have c := disk_copy l m s1 s2
  refine Ev.bind c (Ev.bind (spec_ok l (m.map conv) s1 s3) (Ev.bind c (Ev.bind (Ev.congr (fun _ => impl_ok l (m.map conv) s1) (Ev.now _)) ?_)))
  refine Ev.congr (fun k => if_neg (by simp)) (Ev.bind c (Ev.bind (disk_same l (m.map conv) s1 s3) ?_))
  exact Ev.congr (fun k => if_pos rfl) (Ev.now _)

end Go.Proofs.Ytagdjkdnblpghaa.fnExactDiskOK.Pure
