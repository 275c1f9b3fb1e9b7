/- For every page number, epoch and text of at most 2^20 bytes the program's ReadPage answers what the reference's answers; no condition. -/
import Derived.Test.YtagdjkdnblpghaaXS4
import Derived.Test.YtagdjkdnblpghaaPage
namespace Go.Proofs.Ytagdjkdnblpghaa.Pure
open Go Go.RowKit Go.Proofs.Ytagdjkdnblpghaa.XS Go.Proofs.YtagdjkdnblpghaaW.PrintWords Go.Proofs.YtagdjkdnblpghaaW.PrintLast Go.Proofs.Ytagdjkdnblpghaa.Aid Go.Proofs.Ytagdjkdnblpghaa.Crc Go.Proofs.Ytagdjkdnblpghaa.Page

def within (x l h : Int) : Bool := if x ≥ l then decide (x ≤ h) else false
theorem within_impl (x l h : Int) : impl_within.f x l h = some (within x l h) := by
  unfold impl_within.f within
  split <;> rfl
theorem within_spec (x l h : Int) : spec_l01In.f x l h = some (within x l h) := by
  unfold spec_l01In.f within
  split <;> rfl

/-- What both sides answer behind the tests. -/
def body (p e : Int) (s : ByteArray) : Int × ByteArray × Int :=
  if sum (pageOf p e (bytesOf (s.extract 0 28))) = told (s.extract 28 s.size) then (wrap64 (bt s 0), s.extract 1 28, 0) else (0, (⟨#[]⟩ : ByteArray), 8)

theorem head_size (s : ByteArray) (h : s.size = 32) : (s.extract 0 28).size = 28 := by rw [ByteArray.size_extract]; omega
theorem tail_size (s : ByteArray) (h : s.size = 32) : (s.extract 28 s.size).size = 4 := by rw [ByteArray.size_extract]; omega

theorem spec_read (p e : Int) (s : ByteArray) (h : s.size = 32) :
    Ev (fun k => (spec_l03Read.f k p e s).bind fun bt144 => (if bt144.2.2 = true then (some (bt144.1, bt144.2.1, 0)) else (some (0, (⟨#[]⟩ : ByteArray), 8)))) (body p e s) := by
  have hs : Ev (fun k => spec_l03Read.f k p e s) (if sum (pageOf p e (bytesOf (s.extract 0 28))) = told (s.extract 28 s.size) then (wrap64 (bt s 0), s.extract 1 28, true) else (0, (⟨#[]⟩ : ByteArray), false)) := by
    unfold spec_l03Read.f
    refine Ev.congr (fun k => if_pos (by omega)) (Ev.congr (fun k => if_pos (by omega)) ?_)
    refine Ev.bind (spec_pageSum p e _ (by rw [head_size s h]; omega)) ?_
    refine Ev.bind (a := told (s.extract 28 s.size)) ⟨5, fun k hk => by
      obtain ⟨m, rfl⟩ : ∃ m, k = m + 5 := ⟨k - 5, by omega⟩
      exact spec_of _ (tail_size s h) m⟩ ?_
    by_cases hq : sum (pageOf p e (bytesOf (s.extract 0 28))) = told (s.extract 28 s.size)
    · simp only [if_pos hq]
      refine Ev.congr (fun k => if_pos (by omega)) (Ev.congr (fun k => if_pos (by omega)) (Ev.now _))
    · simp only [if_neg hq]
      exact Ev.now _
  refine Ev.bind hs ?_
  unfold body
  by_cases hq : sum (pageOf p e (bytesOf (s.extract 0 28))) = told (s.extract 28 s.size)
  · simp only [if_pos hq]
    exact Ev.now _
  · simp only [if_neg hq]
    exact Ev.now _

theorem impl_read (p e : Int) (s : ByteArray) (h : s.size = 32) :
    Ev (fun k => impl_ReadPage.j0 k p e s false) (body p e s) := by
  refine Ev.step (fun k => by simp only [impl_ReadPage.j0]; rfl) ?_
  refine Ev.congr (fun k => if_neg (by simp)) (Ev.congr (fun k => if_pos (by omega)) (Ev.congr (fun k => if_pos (by omega)) (Ev.congr (fun k => if_pos (by omega)) ?_)))
  refine Ev.bind (impl_pageSum p e _ (by rw [head_size s h]; omega)) ?_
  have hr := sum_range (pageOf p e (bytesOf (s.extract 0 28))) (pageOf_range p e _ (bytesOf_range _))
  unfold body
  by_cases hq : sum (pageOf p e (bytesOf (s.extract 0 28))) = told (s.extract 28 s.size)
  · have hq' := (toList_iff _ _).2 ((told_four (s.extract 28 s.size) (tail_size s h) _ hr.1 hr.2).2 hq)
    simp only [if_pos hq]
    refine Ev.congr (fun k => if_pos hq') (Ev.congr (fun k => if_pos (by omega)) (Ev.congr (fun k => if_pos (by omega)) (Ev.now _)))
  · have hq' : ¬ (s.extract 28 s.size).toList = (strOfNums (four (sum (pageOf p e (bytesOf (s.extract 0 28)))))).toList :=
      fun hc => hq ((told_four (s.extract 28 s.size) (tail_size s h) _ hr.1 hr.2).1 ((toList_iff _ _).1 hc))
    simp only [if_neg hq]
    exact Ev.congr (fun k => if_neg hq') (Ev.now _)

theorem long_one (s : ByteArray) : impl_areLong.f [s] = some (decide (65536 < (s.size : Int))) := by
  simp [impl_areLong.f]

theorem FnExactReadPage : laws_FnExactReadPage.Pure := by
  intro p e s _ _ hn
  refine Ev.rounds ?_
  unfold laws_FnExactReadPage.f
  by_cases hb : (s.size : Int) > 1048576
  · exact Ev.congr (fun k => if_pos hb) (Ev.now true)
  refine Ev.congr (fun k => if_neg hb) ?_
  suffices hp : ∃ r, Ev (fun k => spec_ReadPage.f k p e s) r ∧ Ev (fun k => impl_ReadPage.f k p e s) r by
    obtain ⟨r, h1, h2⟩ := hp
    refine Ev.bind h1 (Ev.bind h2 ?_)
    exact Ev.congr (fun k => if_pos rfl) (Ev.congr (fun k => if_pos rfl) (Ev.congr (fun k => if_pos rfl) (Ev.now _)))
  unfold spec_ReadPage.f impl_ReadPage.f spec_l03Numbers.f impl_isPage.f impl_isEpoch.f
  simp only [long_one, within_impl, within_spec, Option.bind_some, decide_eq_true_eq]
  by_cases hl : 65536 < (s.size : Int)
  · simp only [gt_iff_lt, if_pos hl]
    exact ⟨_, Ev.now _, Ev.now _⟩
  simp only [gt_iff_lt, if_neg hl]
  have bad : Ev (fun k => impl_ReadPage.j0 k p e s true) (0, (⟨#[]⟩ : ByteArray), 4) :=
    Ev.step (fun k => by simp only [impl_ReadPage.j0]; exact if_pos trivial) (Ev.now _)
  cases hpg : within p 2 255 with
  | false =>
    simp only [Bool.false_eq_true, if_false, Option.bind_some]
    exact ⟨_, Ev.now _, bad⟩
  | true =>
    simp only [if_true, Option.bind_some]
    cases hep : within e 1 4294967295 with
    | false =>
      simp only [Bool.false_eq_true, if_false, Bool.not_false]
      exact ⟨_, Ev.now _, bad⟩
    | true =>
      simp only [if_true, Bool.not_true]
      by_cases hz : (s.size : Int) = 32
      · simp only [if_pos hz]
        exact ⟨_, spec_read p e s (by omega), impl_read p e s (by omega)⟩
      · simp only [if_neg hz]
        refine ⟨_, Ev.now _, Ev.step (fun k => by simp only [impl_ReadPage.j0]; rw [if_neg (by simp), if_neg hz]) (Ev.now _)⟩

end Go.Proofs.Ytagdjkdnblpghaa.Pure
