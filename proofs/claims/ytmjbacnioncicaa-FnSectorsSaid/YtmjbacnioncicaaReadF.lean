/- For every page number, epoch and text of at most 2^20 bytes the program's ReadPage answers what the reference's answers; no condition. -/
import Derived.Test.YtmjbacnioncicaaXF9
import Derived.Test.YtmjbacnioncicaaXF8
import Derived.Test.YtmjbacnioncicaaXF6
import Derived.Test.YtmjbacnioncicaaPageF
namespace Go.Proofs.Ytmjbacnioncicaa.ReadF
open Go Go.RowKit Go.Proofs.Ytmjbacnioncicaa.XF Go.Proofs.YtmjbacnioncicaaW.PrintWords Go.Proofs.YtmjbacnioncicaaW.PrintLast Go.Proofs.Ytmjbacnioncicaa.Aid Go.Proofs.Ytmjbacnioncicaa.CrcF Go.Proofs.Ytmjbacnioncicaa.PageF

def within (x l h : Int) : Bool := if x ≥ l then decide (x ≤ h) else false
theorem within_impl (x l h : Int) : impl_within.f x l h = some (within x l h) := by
  unfold impl_within.f within
  split <;> rfl
theorem within_spec (x l h : Int) : spec_l01In.f x l h = some (within x l h) := by
  unfold spec_l01In.f within
  split <;> rfl

/-- What both sides answer behind the tests. -/
def body (p e : Int) (s : ByteArray) : Int × ByteArray × Int :=
  if sum (pageOf p e (bytesOf (s.extract 0 28))) = told (s.extract 28 s.size) then (wrap64 (bt s 0), s.extract 1 28, 0) else (0, (⟨#[]⟩ : ByteArray), 8)

theorem head_size (s : ByteArray) (h : s.size = 32) : (s.extract 0 28).size = 28 := by rw [ByteArray.size_extract]; omega
theorem tail_size (s : ByteArray) (h : s.size = 32) : (s.extract 28 s.size).size = 4 := by rw [ByteArray.size_extract]; omega

theorem impl_read (p e : Int) (s : ByteArray) (h : s.size = 32) :
    Ev (fun k => impl_ReadPage.j0 k p e s false) (body p e s) := by
  refine Ev.step (fun k => by simp only [impl_ReadPage.j0]; rfl) ?_
  refine Ev.congr (fun k => if_neg (by simp)) (Ev.congr (fun k => if_pos (by omega)) (Ev.congr (fun k => if_pos (by omega)) (Ev.congr (fun k => if_pos (by omega)) ?_)))
  refine Ev.bind (impl_pageSum p e _ (by rw [head_size s h]; omega)) ?_
  have hr := sum_range (pageOf p e (bytesOf (s.extract 0 28))) (pageOf_range p e _ (bytesOf_range _))
  unfold body
  by_cases hq : sum (pageOf p e (bytesOf (s.extract 0 28))) = told (s.extract 28 s.size)
  · have hq' := (toList_iff _ _).2 ((told_four (s.extract 28 s.size) (tail_size s h) _ hr.1 hr.2).2 hq)
    simp only [if_pos hq]
    refine Ev.congr (fun k => if_pos hq') (Ev.congr (fun k => if_pos (by omega)) (Ev.congr (fun k => if_pos (by omega)) (Ev.now _)))
  · have hq' : ¬ (s.extract 28 s.size).toList = (strOfNums (four (sum (pageOf p e (bytesOf (s.extract 0 28)))))).toList :=
      fun hc => hq ((told_four (s.extract 28 s.size) (tail_size s h) _ hr.1 hr.2).1 ((toList_iff _ _).1 hc))
    simp only [if_neg hq]
    exact Ev.congr (fun k => if_neg hq') (Ev.now _)

theorem long_one (s : ByteArray) : impl_areLong.f [s] = some (decide (65536 < (s.size : Int))) := by
  simp [impl_areLong.f]

end Go.Proofs.Ytmjbacnioncicaa.ReadF
