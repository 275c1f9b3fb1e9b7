/- For all two disks within the law's size the program's DiskSame answers what the reference's answers, and the disks are unchanged; no condition. -/
import Derived.Test.YtagdjkdnblpghaaXOpenFnExactDiskSame
import Derived.Test.YtagdjkdnblpghaaDiskE
namespace Go.Proofs.Ytagdjkdnblpghaa.fnExactDiskSame.Pure
set_option maxRecDepth 100000
open Go Go.RowKit Go.Proofs.Ytagdjkdnblpghaa.XD Go.Proofs.YtagdjkdnblpghaaW.PrintWords Go.Proofs.YtagdjkdnblpghaaW.PrintLast Go.Proofs.YtagdjkdnblpghaaW.PrintMore Go.Proofs.Ytagdjkdnblpghaa.Opn Go.Proofs.Ytagdjkdnblpghaa.Aid Go.Proofs.Ytagdjkdnblpghaa.Loops Go.Proofs.Ytagdjkdnblpghaa.DiskD Go.Proofs.Ytagdjkdnblpghaa.DiskE
set_option linter.unusedVariables false

/-- Two loops over the sectors, in step. -/
theorem loop (l : List ByteArray) (m : List S92) (l' : List ByteArray) (m' : List S92) (hl : l.length ≤ 1048576) (hm : m.length ≤ 1048576) (hm' : m'.length ≤ 1048576) (e : l.length = l'.length) : ∃ q, Ev (fun k => spec_DiskSame.l0 k 0 l m l' m') q ∧ Ev (fun k => impl_DiskSame.l0 k (l.length : Int) 0 l m l' m') q := by
  have key : ∀ (d i : Nat), i + d = l.length → ∃ q, Ev (fun k => spec_DiskSame.l0 k (i : Int) l m l' m') q ∧ Ev (fun k => impl_DiskSame.l0 k (l.length : Int) (i : Int) l m l' m') q := by
    intro d
    induction d with
    | zero =>
      intro i hi
      exact ⟨(true, 0), Ev.step (f := fun _ => some _) (fun k => by simp only [spec_DiskSame.l0]; rw [if_neg (by omega)]) (Ev.now _), Ev.step (f := fun _ => some _) (fun k => by simp only [impl_DiskSame.l0]; rw [if_neg (by omega)]) (Ev.now _)⟩
    | succ d ih =>
      intro i hi
      obtain ⟨v, h1, h2⟩ := read_ev l m (i : Int) (by omega) (by omega) hm
      obtain ⟨v', h1', h2'⟩ := read_ev l' m' (i : Int) (by omega) (by omega) hm'
      have hn := next_ (n := l.length) (i := i) (by omega) (by omega)
      by_cases hv : v.toList = v'.toList
      · obtain ⟨q, ha, hb⟩ := ih (i + 1) (by omega)
        refine ⟨q, ?_, ?_⟩
        · refine Ev.step (f := fun k => (spec_l02Read.f k l m (i : Int)).bind fun t => (spec_l02Read.f k l' m' (i : Int)).bind fun u => if t.toList = u.toList then spec_DiskSame.l0 k ((i + 1 : Nat) : Int) l m l' m' else some (false, 0)) (fun k => by simp only [spec_DiskSame.l0]; rw [if_pos (by omega), hn]) ?_
          exact Ev.bind h2 (Ev.bind h2' (Ev.congr (fun _ => if_pos hv) ha))
        · refine Ev.step (fun k => ?_) hb
          simp only [impl_DiskSame.l0]
          rw [if_pos (by omega), h1, h1', hn]
          simp only [Option.bind_some]
          rw [if_pos hv]
      · refine ⟨(false, 0), ?_, ?_⟩
        · refine Ev.step (f := fun k => (spec_l02Read.f k l m (i : Int)).bind fun t => (spec_l02Read.f k l' m' (i : Int)).bind fun u => if t.toList = u.toList then spec_DiskSame.l0 k ((i + 1 : Nat) : Int) l m l' m' else some (false, 0)) (fun k => by simp only [spec_DiskSame.l0]; rw [if_pos (by omega), hn]) ?_
          exact Ev.bind h2 (Ev.bind h2' (Ev.congr (fun _ => if_neg hv) (Ev.now _)))
        · refine Ev.step (f := fun _ => some (false, 0)) (fun k => ?_) (Ev.now _)
          simp only [impl_DiskSame.l0]
          rw [if_pos (by omega), h1, h1']
          simp only [Option.bind_some]
          rw [if_neg hv]
  exact key l.length 0 (by omega)
theorem sides (l : List ByteArray) (m : List S92) (l' : List ByteArray) (m' : List S92) (hl : l.length ≤ 1048576) (hm : m.length ≤ 1048576) (hl' : l'.length ≤ 1048576) (hm' : m'.length ≤ 1048576) : ∃ q, Ev (fun k => spec_DiskSame.f k l m l' m') q ∧ Ev (fun k => impl_DiskSame.f k l m l' m') q := by
  have hs := spec_ok l m hl hm
  have hi := impl_ok l m hl
  have hs' := spec_ok l' m' hl' hm'
  have hi' := impl_ok l' m' hl'
  have bad : Ev (fun k => spec_DiskSame.j0 k true l m l' m') (false, 1) ∧ Ev (fun k => impl_DiskSame.j0 k true l m l' m') (false, 1) :=
    ⟨Ev.step (f := fun _ => some _) (fun k => by simp only [spec_DiskSame.j0, if_true]) (Ev.now _), Ev.step (f := fun _ => some _) (fun k => by simp only [impl_DiskSame.j0, if_true]) (Ev.now _)⟩
  unfold spec_DiskSame.f impl_DiskSame.f
  rw [hi, hi']
  simp only [Option.bind_some]
  cases hok : ok l m with
  | false =>
    rw [hok] at hs
    exact ⟨(false, 1), Ev.bind hs (Ev.congr (fun _ => if_neg (by simp)) bad.1), Ev.congr (fun _ => if_neg (by simp)) bad.2⟩
  | true =>
    rw [hok] at hs
    cases hok' : ok l' m' with
    | false =>
      rw [hok'] at hs'
      exact ⟨(false, 1), Ev.bind hs (Ev.congr (fun _ => if_pos rfl) (Ev.bind hs' bad.1)), Ev.congr (fun _ => if_pos rfl) bad.2⟩
    | true =>
      rw [hok'] at hs'
      by_cases e : (l.length : Int) = (l'.length : Int)
      · obtain ⟨q, ha, hb⟩ := loop l m l' m' hl hm hm' (by omega)
        refine ⟨q, Ev.bind hs (Ev.congr (fun _ => if_pos rfl) (Ev.bind hs' ?_)), Ev.congr (fun _ => if_pos rfl) ?_⟩
        · exact Ev.step (fun k => by simp only [Bool.not_true, spec_DiskSame.j0, Bool.false_eq_true, if_false]; rw [if_pos e]) ha
        · exact Ev.step (fun k => by simp only [Bool.not_true, impl_DiskSame.j0, Bool.false_eq_true, if_false]; rw [if_pos e]) hb
      · refine ⟨(false, 0), Ev.bind hs (Ev.congr (fun _ => if_pos rfl) (Ev.bind hs' ?_)), Ev.congr (fun _ => if_pos rfl) ?_⟩
        · exact Ev.step (f := fun _ => some _) (fun k => by simp only [Bool.not_true, spec_DiskSame.j0, Bool.false_eq_true, if_false]; rw [if_neg e]) (Ev.now _)
        · exact Ev.step (f := fun _ => some _) (fun k => by simp only [Bool.not_true, impl_DiskSame.j0, Bool.false_eq_true, if_false]; rw [if_neg e]) (Ev.now _)
theorem FnExactDiskSame : Pure := by
  intro d d' hd hd'
  obtain ⟨l, m⟩ := d
  obtain ⟨l', m'⟩ := d'
  have ll : l.length ≤ 9223372036854775807 := by simpa [maxLen] using hd.1.1
  have wl : ∀ x ∈ l, x.size ≤ 9223372036854775807 := fun x hx => by simpa [Wfstr, maxLen] using hd.1.2 x hx
  have lm : m.length ≤ 9223372036854775807 := by simpa [maxLen] using hd.2.1
  have wm : ∀ x ∈ m, x.f1.size ≤ 9223372036854775807 := fun x hx => by simpa [Wfstr, maxLen] using (hd.2.2 x hx).2
  have ll' : l'.length ≤ 9223372036854775807 := by simpa [maxLen] using hd'.1.1
  have wl' : ∀ x ∈ l', x.size ≤ 9223372036854775807 := fun x hx => by simpa [Wfstr, maxLen] using hd'.1.2 x hx
  have lm' : m'.length ≤ 9223372036854775807 := by simpa [maxLen] using hd'.2.1
  have wm' : ∀ x ∈ m', x.f1.size ≤ 9223372036854775807 := fun x hx => by simpa [Wfstr, maxLen] using (hd'.2.2 x hx).2
  refine Ev.rounds ?_
  unfold laws_FnExactDiskSame.f
  obtain ⟨r, h1, h2, h3⟩ := disk_size l m ll wl lm wm 1048576 (by omega) (by omega)
  refine Ev.bind h1 ?_
  by_cases hr : r < 0
  · exact Ev.congr (fun k => if_pos hr) (Ev.now _)
  refine Ev.congr (fun k => if_neg hr) ?_
  obtain ⟨r', h1', h2', h3'⟩ := disk_size l' m' ll' wl' lm' wm' r (by omega) (by omega)
  refine Ev.bind h1' ?_
  by_cases hr' : r' < 0
  · exact Ev.congr (fun k => if_pos hr') (Ev.now _)
  refine Ev.congr (fun k => if_neg hr') ?_
  obtain ⟨s1, s2⟩ := h3 (by omega)
  obtain ⟨s1', s2'⟩ := h3' (by omega)
  have s3 : (m.map conv).length ≤ 1048576 := by rw [List.length_map]; exact s2
  have s3' : (m'.map conv).length ≤ 1048576 := by rw [List.length_map]; exact s2'
  have c := disk_copy l m s1 s2
  have c' := disk_copy l' m' s1' s2'
  generalize m.map conv = a at c s3
  generalize m'.map conv = a' at c' s3'
  obtain ⟨q, hs, hi⟩ := sides l a l' a' s1 s3 s1' s3'
  refine Ev.bind c (Ev.bind c' (Ev.bind hs (Ev.bind c (Ev.bind c' (Ev.bind hi (Ev.congr (fun _ => if_neg (by simp)) ?_))))))
  refine Ev.step (fun k => laws_FnExactDiskSame.j0.eq_2 ..) (Ev.congr (fun _ => if_neg (by simp)) (Ev.bind c (Ev.bind (disk_same l a s1 s3) (Ev.congr (fun _ => if_pos rfl) (Ev.bind c' (Ev.bind (disk_same l' a' s1' s3') (Ev.congr (fun _ => if_pos rfl) (Ev.now _))))))))

end Go.Proofs.Ytagdjkdnblpghaa.fnExactDiskSame.Pure
