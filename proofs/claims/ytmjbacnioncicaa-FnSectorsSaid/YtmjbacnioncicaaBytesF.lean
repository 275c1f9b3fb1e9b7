/- For every page, link, epoch and text of at most 2^20 bytes the program's PageBytes answers what the reference's answers; no condition. -/
import Derived.Test.YtmjbacnioncicaaXF9
import Derived.Test.YtmjbacnioncicaaXF8
import Derived.Test.YtmjbacnioncicaaXF6
import Derived.Test.YtmjbacnioncicaaPageF
namespace Go.Proofs.Ytmjbacnioncicaa.BytesF
open Go Go.RowKit Go.Proofs.Ytmjbacnioncicaa.XF Go.Proofs.YtmjbacnioncicaaW.PrintWords Go.Proofs.YtmjbacnioncicaaW.PrintLast Go.Proofs.Ytmjbacnioncicaa.Aid Go.Proofs.Ytmjbacnioncicaa.CrcF Go.Proofs.Ytmjbacnioncicaa.PageF

def within (x l h : Int) : Bool := if x ≥ l then decide (x ≤ h) else false
theorem within_impl (x l h : Int) : impl_within.f x l h = some (within x l h) := by
  unfold impl_within.f within
  split <;> rfl
theorem within_spec (x l h : Int) : spec_l01In.f x l h = some (within x l h) := by
  unfold spec_l01In.f within
  split <;> rfl
theorem long_one (s : ByteArray) : impl_areLong.f [s] = some (decide (65536 < (s.size : Int))) := by
  simp [impl_areLong.f]

def front (b : Int) (s : ByteArray) : List Int := [b % 256] ++ bytesOf s ++ List.replicate (27 - s.size) 0
theorem front_range (b : Int) (s : ByteArray) : ∀ x ∈ front b s, 0 ≤ x ∧ x < 256 := by
  intro x hx
  simp only [front, List.mem_append, List.mem_cons, List.not_mem_nil, or_false] at hx
  rcases hx with (rfl | hx) | hx
  · omega
  · exact bytesOf_range s x hx
  · rw [List.eq_of_mem_replicate hx]
    omega
theorem front_length (b : Int) (s : ByteArray) (h : s.size ≤ 27) : (front b s).length = 28 := by
  simp [front, bytesOf_length]
  omega
def page (p b e : Int) (s : ByteArray) : ByteArray := strOfNums (front b s) ++ strOfNums (four (sum (pageOf p e (front b s))))

theorem spec_page (p b e : Int) (s : ByteArray) (h : s.size ≤ 27) : Ev (fun k => spec_l03Page.f k p b e s) (page p b e s) := by
  unfold spec_l03Page.f
  have hw : wrap64 (27 - (s.size : Int)) = ((27 - s.size : Nat) : Int) := by
    rw [wrap_id (by omega) (by omega)]
    omega
  have hl : ([b % 256] ++ bytesOf s : List Int).length = 1 + s.size := by
    simp [bytesOf_length]
    omega
  simp only [Option.bind_some, hw, hl, Int.toNat_natCast]
  refine Ev.congr (fun k => if_pos (by simp; omega)) (Ev.congr (fun k => if_pos (by omega)) (Ev.congr (fun k => if_pos (by omega)) ?_))
  have hs : (strOfNums (front b s)).size = 28 := by rw [strOfNums_size, front_length b s h]
  have h1 := spec_pageSum p e (strOfNums (front b s)) (by omega)
  rw [bytesOf_strOfNums _ (front_range b s)] at h1
  refine Ev.bind h1 ?_
  simp only [spec_four, Option.bind_some]
  have hq : ([b % 256] ++ bytesOf s ++ List.replicate (27 - s.size) 0 : List Int) = front b s := rfl
  rw [hq]
  refine Ev.congr (fun k => if_pos (by rw [front_length b s h, four_length]; omega)) ?_
  rw [strOfNums_append]
  exact Ev.now _

theorem noughts_eq (m : Nat) : noughts m = strOfNums (List.replicate m 0) := by
  unfold noughts strOfNums
  simp

theorem impl_page (p b e : Int) (s : ByteArray) (h : s.size ≤ 27) : Ev (fun k => impl_pageBytes.f k p b e s) (page p b e s) := by
  unfold impl_pageBytes.f impl_padded.f
  rw [if_neg (by omega), if_neg (by omega)]
  have hw : (27 - (s.size : Int)).toNat = 27 - s.size := by omega
  simp only [Option.bind_some, hw, noughts_eq]
  have hf : strOfNums [b % 256] ++ (s ++ strOfNums (List.replicate (27 - s.size) 0)) = strOfNums (front b s) := by
    unfold front
    rw [strOfNums_append, strOfNums_append, strOfNums_bytesOf, ByteArray.append_assoc]
  have hs : (strOfNums (front b s)).size = 28 := by rw [strOfNums_size, front_length b s h]
  have hz : (strOfNums [b % 256]).size + (s ++ strOfNums (List.replicate (27 - s.size) 0)).size = 28 := by
    rw [← ByteArray.size_append, hf, hs]
  rw [hf]
  refine Ev.congr (fun k => if_pos (by omega)) ?_
  have h1 := impl_pageSum p e (strOfNums (front b s)) (by omega)
  rw [bytesOf_strOfNums _ (front_range b s)] at h1
  refine Ev.bind h1 ?_
  refine Ev.congr (fun k => if_pos (by rw [hs, strOfNums_size, four_length]; omega)) ?_
  exact Ev.now _
end Go.Proofs.Ytmjbacnioncicaa.BytesF
