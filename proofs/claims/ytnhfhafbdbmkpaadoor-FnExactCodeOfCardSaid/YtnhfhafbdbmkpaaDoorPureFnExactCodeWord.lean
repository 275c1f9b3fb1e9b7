/- For every code the program's word and the reference's are the same; no condition. -/
import Derived.Test.YtnhfhafbdbmkpaaDoorXW2
import Derived.Test.YtnhfhafbdbmkpaaDoorAid
namespace Go.Proofs.YtnhfhafbdbmkpaaDoor.Pure
open Go.RowKit Go.Proofs.YtnhfhafbdbmkpaaDoor.XW Go.Proofs.YtnhfhafbdbmkpaaDoorW.PrintWords Go.Proofs.YtnhfhafbdbmkpaaDoorW.PrintLast

theorem words_len : (impl_codeWords.words.length : Int) = 20 := rfl
theorem spec_word (a0 : Int) : spec_CodeWord.f a0 = some (if a0 < 0 then ⟨#[]⟩ else if a0 ≥ 20 then ⟨#[]⟩ else rdOf ByteArray.empty impl_codeWords.words a0) := by
  show (some impl_codeWords.words).bind _ = _
  rw [Option.bind_some, words_len]
  by_cases h1 : a0 < 0
  · rw [if_pos h1, if_pos h1]
  rw [if_neg h1, if_neg h1]
  by_cases h2 : a0 ≥ 20
  · rw [if_pos h2, if_pos h2]
  rw [if_neg h2, if_neg h2, if_pos (by omega), if_pos (by omega)]
theorem impl_word (a0 : Int) : impl_CodeWord.f a0 = some (if a0 < 0 then ⟨#[]⟩ else if a0 ≥ 20 then ⟨#[]⟩ else rdOf ByteArray.empty impl_codeWords.words a0) := by
  have hw : impl_within.f a0 0 19 = some (decide (0 ≤ a0 ∧ a0 ≤ 19)) := by
    unfold impl_within.f
    by_cases h : a0 ≥ 0 <;> simp [h]
  unfold impl_CodeWord.f
  rw [hw, Option.bind_some]
  by_cases h1 : a0 < 0
  · rw [if_neg (by simp; omega), if_pos h1]
  by_cases h2 : a0 ≥ 20
  · rw [if_neg (by simp; omega), if_neg h1, if_pos h2]
  rw [if_pos (by simp; omega), if_neg h1, if_neg h2]
  show (some impl_codeWords.words).bind _ = _
  rw [Option.bind_some, words_len, if_pos (by omega), if_pos (by omega)]

theorem FnExactCodeWord : laws_FnExactCodeWord.Pure := by
  intro a0 _
  unfold laws_FnExactCodeWord.f
  rw [spec_word, impl_word, Option.bind_some, Option.bind_some, if_pos rfl]

end Go.Proofs.YtnhfhafbdbmkpaaDoor.Pure
