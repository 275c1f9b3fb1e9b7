/- For every page, link, epoch and text of at most 2^20 bytes the program's PageBytes answers what the reference's answers; no condition. -/
import Derived.Test.YtagdjkdnblpghaaXS5
import Derived.Test.YtagdjkdnblpghaaPage
namespace Go.Proofs.Ytagdjkdnblpghaa.PureBytes
open Go Go.RowKit Go.Proofs.Ytagdjkdnblpghaa.XS Go.Proofs.YtagdjkdnblpghaaW.PrintWords Go.Proofs.YtagdjkdnblpghaaW.PrintLast Go.Proofs.Ytagdjkdnblpghaa.Aid Go.Proofs.Ytagdjkdnblpghaa.Crc Go.Proofs.Ytagdjkdnblpghaa.Page

def within (x l h : Int) : Bool := if x ≥ l then decide (x ≤ h) else false
theorem within_impl (x l h : Int) : impl_within.f x l h = some (within x l h) := by
  unfold impl_within.f within
  split <;> rfl
theorem within_spec (x l h : Int) : spec_l01In.f x l h = some (within x l h) := by
  unfold spec_l01In.f within
  split <;> rfl
theorem long_one (s : ByteArray) : impl_areLong.f [s] = some (decide (65536 < (s.size : Int))) := by
  simp [impl_areLong.f]

def front (b : Int) (s : ByteArray) : List Int := [b % 256] ++ bytesOf s ++ List.replicate (27 - s.size) 0
theorem front_range (b : Int) (s : ByteArray) : ∀ x ∈ front b s, 0 ≤ x ∧ x < 256 := by
  intro x hx
  simp only [front, List.mem_append, List.mem_cons, List.not_mem_nil, or_false] at hx
  rcases hx with (rfl | hx) | hx
  · omega
  · exact bytesOf_range s x hx
  · rw [List.eq_of_mem_replicate hx]
    omega
theorem front_length (b : Int) (s : ByteArray) (h : s.size ≤ 27) : (front b s).length = 28 := by
  simp [front, bytesOf_length]
  omega
def page (p b e : Int) (s : ByteArray) : ByteArray := strOfNums (front b s) ++ strOfNums (four (sum (pageOf p e (front b s))))

theorem spec_page (p b e : Int) (s : ByteArray) (h : s.size ≤ 27) : Ev (fun k => spec_l03Page.f k p b e s) (page p b e s) := by
  unfold spec_l03Page.f
  have hw : wrap64 (27 - (s.size : Int)) = ((27 - s.size : Nat) : Int) := by
    rw [wrap_id (by omega) (by omega)]
    omega
  have hl : ([b % 256] ++ bytesOf s : List Int).length = 1 + s.size := by
    simp [bytesOf_length]
    omega
  simp only [Option.bind_some, hw, hl, Int.toNat_natCast]
  refine Ev.congr (fun k => if_pos (by simp; omega)) (Ev.congr (fun k => if_pos (by omega)) (Ev.congr (fun k => if_pos (by omega)) ?_))
  have hs : (strOfNums (front b s)).size = 28 := by rw [strOfNums_size, front_length b s h]
  have h1 := spec_pageSum p e (strOfNums (front b s)) (by omega)
  rw [bytesOf_strOfNums _ (front_range b s)] at h1
  refine Ev.bind h1 ?_
  simp only [spec_four, Option.bind_some]
  have hq : ([b % 256] ++ bytesOf s ++ List.replicate (27 - s.size) 0 : List Int) = front b s := rfl
  rw [hq]
  refine Ev.congr (fun k => if_pos (by rw [front_length b s h, four_length]; omega)) ?_
  rw [strOfNums_append]
  exact Ev.now _

theorem noughts_eq (m : Nat) : noughts m = strOfNums (List.replicate m 0) := by
  unfold noughts strOfNums
  simp

theorem impl_page (p b e : Int) (s : ByteArray) (h : s.size ≤ 27) : Ev (fun k => impl_pageBytes.f k p b e s) (page p b e s) := by
  unfold impl_pageBytes.f impl_padded.f
  rw [if_neg (by omega), if_neg (by omega)]
  have hw : (27 - (s.size : Int)).toNat = 27 - s.size := by omega
  simp only [Option.bind_some, hw, noughts_eq]
  have hf : strOfNums [b % 256] ++ (s ++ strOfNums (List.replicate (27 - s.size) 0)) = strOfNums (front b s) := by
    unfold front
    rw [strOfNums_append, strOfNums_append, strOfNums_bytesOf, ByteArray.append_assoc]
  have hs : (strOfNums (front b s)).size = 28 := by rw [strOfNums_size, front_length b s h]
  have hz : (strOfNums [b % 256]).size + (s ++ strOfNums (List.replicate (27 - s.size) 0)).size = 28 := by
    rw [← ByteArray.size_append, hf, hs]
  rw [hf]
  refine Ev.congr (fun k => if_pos (by omega)) ?_
  have h1 := impl_pageSum p e (strOfNums (front b s)) (by omega)
  rw [bytesOf_strOfNums _ (front_range b s)] at h1
  refine Ev.bind h1 ?_
  refine Ev.congr (fun k => if_pos (by rw [hs, strOfNums_size, four_length]; omega)) ?_
  exact Ev.now _
end Go.Proofs.Ytagdjkdnblpghaa.PureBytes
namespace Go.Proofs.Ytagdjkdnblpghaa.Pure
open Go Go.RowKit Go.Proofs.Ytagdjkdnblpghaa.XS Go.Proofs.YtagdjkdnblpghaaW.PrintWords Go.Proofs.YtagdjkdnblpghaaW.PrintLast Go.Proofs.Ytagdjkdnblpghaa.PureBytes

theorem FnExactPageBytes : laws_FnExactPageBytes.Pure := by
  intro p b e s _ _ _ hn
  refine Ev.rounds ?_
  unfold laws_FnExactPageBytes.f
  by_cases hb : (s.size : Int) > 1048576
  · exact Ev.congr (fun k => if_pos hb) (Ev.now true)
  refine Ev.congr (fun k => if_neg hb) ?_
  suffices hp : ∃ r, Ev (fun k => spec_PageBytes.f k p b e s) r ∧ Ev (fun k => impl_PageBytes.f k p b e s) r by
    obtain ⟨r, h1, h2⟩ := hp
    refine Ev.bind h1 (Ev.bind h2 ?_)
    exact Ev.congr (fun k => if_pos rfl) (Ev.congr (fun k => if_pos rfl) (Ev.now _))
  unfold spec_PageBytes.f impl_PageBytes.f spec_l03Numbers.f impl_isPage.f impl_isEpoch.f
  simp only [long_one, within_impl, within_spec, Option.bind_some, decide_eq_true_eq]
  by_cases hl : 65536 < (s.size : Int)
  · simp only [gt_iff_lt, if_pos hl]
    exact ⟨_, Ev.now _, Ev.now _⟩
  simp only [gt_iff_lt, if_neg hl]
  have no : ∃ r : ByteArray × Int, Ev (fun _ => some ((⟨#[]⟩ : ByteArray), (4 : Int))) r ∧ Ev (fun _ => some ((⟨#[]⟩ : ByteArray), (4 : Int))) r := ⟨_, Ev.now _, Ev.now _⟩
  by_cases hz : 27 < (s.size : Int)
  · simp only [if_pos hz]
    by_cases h0 : b = 0 <;> cases within p 2 255 <;> cases within e 1 4294967295 <;> cases within b 2 255 <;> simp only [h0, if_true, if_false, Bool.false_eq_true, Option.bind_some] <;> exact no
  · simp only [if_neg hz]
    have h1 := Ev.bind (f := fun _ t192 => some (t192, (0 : Int))) (spec_page p b e s (by omega)) (Ev.now _)
    have h2 := Ev.bind (f := fun _ t192 => some (t192, (0 : Int))) (impl_page p b e s (by omega)) (Ev.now _)
    by_cases h0 : b = 0 <;> cases within p 2 255 <;> cases within e 1 4294967295 <;> cases within b 2 255 <;> simp only [h0, if_true, if_false, Bool.false_eq_true, Option.bind_some] <;> first | exact no | (subst h0; exact ⟨_, h1, h2⟩) | exact ⟨_, h1, h2⟩

end Go.Proofs.Ytagdjkdnblpghaa.Pure
