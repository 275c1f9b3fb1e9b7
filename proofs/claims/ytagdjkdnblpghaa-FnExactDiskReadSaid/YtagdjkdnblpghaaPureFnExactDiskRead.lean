/- For all disks and places within the law's size the program's DiskRead answers what the reference's answers, and the disk is unchanged; no condition. -/
import Derived.Test.YtagdjkdnblpghaaXOpenFnExactDiskRead
import Derived.Test.YtagdjkdnblpghaaDiskE
namespace Go.Proofs.Ytagdjkdnblpghaa.fnExactDiskRead.Pure
set_option maxRecDepth 100000
open Go Go.RowKit Go.Proofs.Ytagdjkdnblpghaa.XD Go.Proofs.YtagdjkdnblpghaaW.PrintWords Go.Proofs.YtagdjkdnblpghaaW.PrintLast Go.Proofs.YtagdjkdnblpghaaW.PrintMore Go.Proofs.Ytagdjkdnblpghaa.Opn Go.Proofs.Ytagdjkdnblpghaa.Aid Go.Proofs.Ytagdjkdnblpghaa.Loops Go.Proofs.Ytagdjkdnblpghaa.DiskD Go.Proofs.Ytagdjkdnblpghaa.DiskE
set_option linter.unusedVariables false

theorem sides (l : List ByteArray) (m : List S92) (a : Int) (hl : l.length ≤ 1048576) (hm : m.length ≤ 1048576) : ∃ q, Ev (fun k => spec_DiskRead.f k l m a) q ∧ impl_DiskRead.f l m a = some q := by
  have hs := spec_ok l m hl hm
  have hi := impl_ok l m hl
  have hh : impl_Disk_hasSector.f l m a = some (within a 0 ((l.length : Int) - 1)) := by
    unfold impl_Disk_hasSector.f
    rw [within_impl, wrap_id (x := (l.length : Int) - 1) (by omega) (by omega)]
    rfl
  unfold spec_DiskRead.f impl_DiskRead.f
  cases hok : ok l m with
  | false =>
    rw [hok] at hs hi
    exact ⟨(⟨#[]⟩, 1), Ev.bind hs (Ev.congr (fun _ => if_neg (by simp)) (Ev.now _)), by rw [hi]; rfl⟩
  | true =>
    rw [hok] at hs hi
    cases hw : within a 0 ((l.length : Int) - 1) with
    | false =>
      refine ⟨(⟨#[]⟩, 4), Ev.bind hs (Ev.congr (fun _ => if_pos rfl) ?_), by rw [hi]; simp only [Option.bind_some, if_true]; rw [hh, hw]; rfl⟩
      rw [within_spec, wrap_id (x := (l.length : Int) - 1) (by omega) (by omega), hw]
      exact Ev.congr (fun _ => rfl) (Ev.now _)
    | true =>
      have hr : 0 ≤ a ∧ a < (l.length : Int) := by
        unfold within at hw
        split at hw
        · have := of_decide_eq_true hw
          omega
        · cases hw
      obtain ⟨v, h1, h2⟩ := read_ev l m a hr.1 hr.2 hm
      refine ⟨(v, 0), Ev.bind hs (Ev.congr (fun _ => if_pos rfl) ?_), by rw [hi]; simp only [Option.bind_some, if_true]; rw [hh, hw]; simp only [Option.bind_some, if_true]; rw [h1]; rfl⟩
      rw [within_spec, wrap_id (x := (l.length : Int) - 1) (by omega) (by omega), hw]
      exact Ev.congr (fun _ => by rw [Option.bind_some, if_pos rfl]) (Ev.bind h2 (Ev.now _))
theorem FnExactDiskRead : Pure := by
  intro d a hd ha
  obtain ⟨l, m⟩ := d
  have ll : l.length ≤ 9223372036854775807 := by simpa [maxLen] using hd.1.1
  have wl : ∀ x ∈ l, x.size ≤ 9223372036854775807 := fun x hx => by simpa [Wfstr, maxLen] using hd.1.2 x hx
  have lm : m.length ≤ 9223372036854775807 := by simpa [maxLen] using hd.2.1
  have wm : ∀ x ∈ m, x.f1.size ≤ 9223372036854775807 := fun x hx => by simpa [Wfstr, maxLen] using (hd.2.2 x hx).2
  refine Ev.rounds ?_
  unfold laws_FnExactDiskRead.f
  obtain ⟨r, h1, h2, h3⟩ := disk_size l m ll wl lm wm 1048576 (by omega) (by omega)
  refine Ev.bind h1 ?_
  by_cases hr : r < 0
  · exact Ev.congr (fun k => if_pos hr) (Ev.now _)
  refine Ev.congr (fun k => if_neg hr) ?_
  obtain ⟨s1, s2⟩ := h3 (by omega)
  have s3 : (m.map conv).length ≤ 1048576 := by rw [List.length_map]; exact s2
  have c := disk_copy l m s1 s2
  generalize m.map conv = m' at c s3
  obtain ⟨q, hs, hi⟩ := sides l m' a s1 s3
  refine Ev.bind c (Ev.bind hs (Ev.bind c (Ev.bind (Ev.congr (fun _ => hi) (Ev.now _)) (Ev.congr (fun _ => if_pos rfl) ?_))))
  refine Ev.step (fun k => laws_FnExactDiskRead.j0.eq_2 ..) (Ev.congr (fun _ => if_neg (by simp)) (Ev.bind c (Ev.bind (disk_same l m' s1 s3) (Ev.congr (fun _ => if_pos rfl) (Ev.now _)))))

end Go.Proofs.Ytagdjkdnblpghaa.fnExactDiskRead.Pure
