/- A meta's test and its sector, on both sides; plain lemmas. -/
import Derived.Test.YtmjbacnioncicaaXF9
import Derived.Test.YtmjbacnioncicaaXF8
import Derived.Test.YtmjbacnioncicaaXF6
import Derived.Test.YtmjbacnioncicaaPageF
namespace Go.Proofs.Ytmjbacnioncicaa.MetaF
open Go Go.RowKit Go.Proofs.Ytmjbacnioncicaa.XF Go.Proofs.YtmjbacnioncicaaW.PrintWords Go.Proofs.YtmjbacnioncicaaW.PrintLast Go.Proofs.Ytmjbacnioncicaa.Aid Go.Proofs.Ytmjbacnioncicaa.CrcF Go.Proofs.Ytmjbacnioncicaa.PageF

def within (x l h : Int) : Bool := if x ≥ l then decide (x ≤ h) else false
theorem within_impl (x l h : Int) : impl_within.f x l h = some (within x l h) := by
  unfold impl_within.f within
  split <;> rfl
theorem within_spec (x l h : Int) : spec_l01In.f x l h = some (within x l h) := by
  unfold spec_l01In.f within
  split <;> rfl
theorem within_iff (x l h : Int) : within x l h = true ↔ l ≤ x ∧ x ≤ h := by
  unfold within
  split <;> simp <;> omega
theorem long_one (s : ByteArray) : impl_areLong.f [s] = some (decide (65536 < (s.size : Int))) := by
  simp [impl_areLong.f]

def ok (e f l : Int) : Bool := decide (1 ≤ e ∧ e ≤ 4294967295 ∧ 0 ≤ l ∧ l ≤ 3000 ∧ (f = 0 ∧ l = 0 ∨ 0 < l ∧ 2 ≤ f ∧ f ≤ 255))
theorem impl_ok (e f l : Int) : impl_metaOK.f e f l = some (ok e f l) := by
  unfold impl_metaOK.f impl_isEpoch.f impl_isPage.f ok
  simp only [within_impl, Option.bind_some]
  have h1 := within_iff e 1 4294967295
  have h2 := within_iff l 0 3000
  have h3 := within_iff f 2 255
  revert h1 h2 h3
  cases within e 1 4294967295 <;> cases within l 0 3000 <;> cases within f 2 255 <;> intro h1 h2 h3 <;> simp only [Bool.false_eq_true, false_iff, true_iff, if_true, if_false] at h1 h2 h3 ⊢ <;>
    by_cases hf : f = 0 <;> by_cases hl : l = 0 <;> by_cases hp : l > 0 <;> simp [hf, hl, hp] <;> omega

def front (e f l : Int) : List Int := [77, 84] ++ four e ++ [f % 256, (l / 256) % 256, l % 256] ++ List.replicate 19 0
theorem front_range (e f l : Int) : ∀ x ∈ front e f l, 0 ≤ x ∧ x < 256 := by
  intro x hx
  simp only [front, List.mem_append, List.mem_cons, List.not_mem_nil, or_false] at hx
  rcases hx with (((rfl | rfl) | hx) | (rfl | rfl | rfl)) | hx
  · omega
  · omega
  · exact four_range e x hx
  · omega
  · omega
  · omega
  · rw [List.eq_of_mem_replicate hx]
    omega
theorem front_length (e f l : Int) : (front e f l).length = 28 := by simp [front, four]
def page (e f l : Int) : ByteArray := strOfNums (front e f l) ++ strOfNums (four (sum (front e f l)))

theorem noughts_eq (m : Nat) : noughts m = strOfNums (List.replicate m 0) := by
  unfold noughts strOfNums
  simp
theorem mark_eq : (⟨#[77, 84]⟩ : ByteArray) = strOfNums [77, 84] := by decide +kernel

theorem impl_meta (e f l : Int) : Ev (fun k => impl_metaBytes.f k e f l) (page e f l) := by
  unfold impl_metaBytes.f
  refine Ev.bind (impl_four e) ?_
  simp only [Option.bind_some, mark_eq, strOfNums_size, four_length, ByteArray.size_append, List.length_cons, List.length_nil]
  refine Ev.congr (fun k => if_pos (by omega)) (Ev.congr (fun k => if_pos (by omega)) ?_)
  have hz : (strOfNums [77, 84] ++ strOfNums (four e) ++ strOfNums [f % 256, l / 256 % 256, l % 256]).size = 9 := by
    rw [ByteArray.size_append, ByteArray.size_append, strOfNums_size, strOfNums_size, strOfNums_size]
    rfl
  have hp : impl_padded.f (strOfNums [77, 84] ++ strOfNums (four e) ++ strOfNums [f % 256, l / 256 % 256, l % 256]) 28 = some (strOfNums (front e f l)) := by
    unfold impl_padded.f
    rw [hz, if_neg (by omega), if_neg (by omega), noughts_eq]
    unfold front
    rw [strOfNums_append, strOfNums_append, strOfNums_append]
    rfl
  have hs : (strOfNums (front e f l)).size = 28 := by rw [strOfNums_size, front_length]
  refine Ev.bind (g := fun _ => _) (a := strOfNums (front e f l)) ⟨0, fun _ _ => hp⟩ ?_
  have h := impl_sum (strOfNums (front e f l)) (by omega)
  rw [bytesOf_strOfNums _ (front_range e f l)] at h
  refine Ev.bind h (Ev.bind (impl_four _) ?_)
  refine Ev.congr (fun k => if_pos (by rw [hs, strOfNums_size, four_length]; omega)) (Ev.now _)
end Go.Proofs.Ytmjbacnioncicaa.MetaF
