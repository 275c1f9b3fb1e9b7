/- For every text of at most 2^20 bytes the program's code of a word and the reference's are the same; no condition. -/
import Derived.Test.YtnhfhafbdbmkpaaDoorPureFnExactCodeWord
namespace Go.Proofs.YtnhfhafbdbmkpaaDoor.Pure
open Go Go.RowKit Go.Proofs.YtnhfhafbdbmkpaaDoor.XW Go.Proofs.YtnhfhafbdbmkpaaDoorW.PrintWords Go.Proofs.YtnhfhafbdbmkpaaDoorW.PrintLast Go.Proofs.YtnhfhafbdbmkpaaDoor.Aid

def first (s : ByteArray) : List ByteArray → Int → Int
  | [], _ => -1
  | x :: xs, i => if s.toList = x.toList then i else first s xs (i + 1)

theorem drop_next (i : Nat) (h : i < impl_codeWords.words.length) : impl_codeWords.words.drop i = rdOf ByteArray.empty impl_codeWords.words (i : Int) :: impl_codeWords.words.drop (i + 1) := by
  rw [List.drop_eq_getElem_cons h]
  congr 1
  simp [rdOf, List.getD_eq_getElem?_getD, List.getElem?_eq_getElem h]
theorem words_length : impl_codeWords.words.length = 20 := rfl

theorem spec_from (s : ByteArray) : ∀ (d i : Nat), i + d = 20 → Ev (fun k => spec_CodeOf.l0 k s (i : Int)) (first s (impl_codeWords.words.drop i) (i : Int)) := by
  intro d
  induction d with
  | zero =>
    intro i hi
    obtain rfl : i = 20 := by omega
    refine Ev.step (f := fun _ => some (-1)) (fun k => ?_) (Ev.now _)
    simp only [spec_CodeOf.l0]
    rw [if_neg (by decide)]
  | succ d ih =>
    intro i hi
    have hw : wrap64 ((i : Int) + 1) = ((i + 1 : Nat) : Int) := by rw [wrap_id (by omega) (by omega)]; omega
    refine Ev.step (f := fun k => if s.toList = (rdOf ByteArray.empty impl_codeWords.words (i : Int)).toList then some (i : Int) else spec_CodeOf.l0 k s ((i + 1 : Nat) : Int)) (fun k => ?_) ?_
    · simp only [spec_CodeOf.l0]
      rw [if_pos (by omega), spec_word, if_neg (by omega), if_neg (by omega), Option.bind_some, hw]
      by_cases h : s.toList = (rdOf ByteArray.empty impl_codeWords.words (i : Int)).toList
      · rw [if_pos h, if_pos h.symm]
      · rw [if_neg h, if_neg (fun e => h e.symm)]
    · rw [drop_next i (by rw [words_length]; omega)]
      unfold first
      by_cases h : s.toList = (rdOf ByteArray.empty impl_codeWords.words (i : Int)).toList
      · rw [if_pos h]
        exact Ev.congr (fun _ => if_pos h) (Ev.now _)
      · rw [if_neg h]
        refine Ev.congr (fun _ => if_neg h) ?_
        have := ih (i + 1) (by omega)
        rw [show ((i + 1 : Nat) : Int) = (i : Int) + 1 by omega] at this
        exact this

theorem index_from (s : ByteArray) : ∀ (d i : Nat), i + d = 20 → Ev (fun k => slices_Index_string_string.l0 k impl_codeWords.words s 20 (i : Int)) (first s (impl_codeWords.words.drop i) (i : Int)) := by
  intro d
  induction d with
  | zero =>
    intro i hi
    obtain rfl : i = 20 := by omega
    refine Ev.step (f := fun _ => some (-1)) (fun k => ?_) (Ev.now _)
    simp only [slices_Index_string_string.l0]
    rw [if_neg (by decide)]
  | succ d ih =>
    intro i hi
    have hw : wrap64 ((i : Int) + 1) = ((i + 1 : Nat) : Int) := by rw [wrap_id (by omega) (by omega)]; omega
    refine Ev.step (f := fun k => if s.toList = (rdOf ByteArray.empty impl_codeWords.words (i : Int)).toList then some (i : Int) else slices_Index_string_string.l0 k impl_codeWords.words s 20 ((i + 1 : Nat) : Int)) (fun k => ?_) ?_
    · simp only [slices_Index_string_string.l0]
      rw [if_pos (by omega), if_pos (by omega), if_pos (by rw [words_len]; omega), hw]
    · rw [drop_next i (by rw [words_length]; omega)]
      unfold first
      by_cases h : s.toList = (rdOf ByteArray.empty impl_codeWords.words (i : Int)).toList
      · rw [if_pos h]
        exact Ev.congr (fun _ => if_pos h) (Ev.now _)
      · rw [if_neg h]
        refine Ev.congr (fun _ => if_neg h) ?_
        have := ih (i + 1) (by omega)
        rw [show ((i + 1 : Nat) : Int) = (i : Int) + 1 by omega] at this
        exact this

theorem FnExactCodeOf : laws_FnExactCodeOf.Pure := by
  intro a0 _
  refine Ev.rounds ?_
  unfold laws_FnExactCodeOf.f
  by_cases hb : (a0.size : Int) > 1048576
  · exact Ev.congr (fun k => if_pos hb) (Ev.now true)
  refine Ev.congr (fun k => if_neg hb) ?_
  have h1 : Ev (fun k => spec_CodeOf.f k a0) (first a0 impl_codeWords.words 0) := spec_from a0 20 0 rfl
  have h2 : Ev (fun k => impl_CodeOf.f k a0) (first a0 impl_codeWords.words 0) := by
    unfold impl_CodeOf.f
    refine Ev.bind (Ev.now impl_codeWords.words) (Ev.bind (a := first a0 impl_codeWords.words 0) ?_ (Ev.now _))
    exact index_from a0 20 0 rfl
  exact Ev.bind h1 (Ev.bind h2 (Ev.congr (fun _ => if_pos rfl) (Ev.now _)))

end Go.Proofs.YtnhfhafbdbmkpaaDoor.Pure
