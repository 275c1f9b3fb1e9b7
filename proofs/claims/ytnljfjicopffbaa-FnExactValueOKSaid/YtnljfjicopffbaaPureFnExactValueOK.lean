/- For every value whose text has at most 2^20 bytes the program's ValueOK answers what the reference's ValueOK answers (others the law passes by); no condition. -/
import Derived.Test.YtnljfjicopffbaaXOpenFnExactValueOK
namespace Go.Proofs.Ytnljfjicopffbaa.fnExactValueOK.Pure
open Go Go.RowKit Go.Proofs.Ytnljfjicopffbaa.XVals Go.Proofs.YtnljfjicopffbaaW.PrintWords Go.Proofs.YtnljfjicopffbaaW.PrintLast Go.Proofs.YtnljfjicopffbaaW.PrintMore Go.Proofs.Ytnljfjicopffbaa.Opn

theorem alike (k n : Int) (t : ByteArray) : ∃ b, spec_ValueOK.f k n t = some b ∧ impl_ValueOK.f k n t = some b := by
  unfold spec_ValueOK.f impl_ValueOK.f impl_hasText.f
  have e : ∀ x : Int, ∃ b, spec_l01In.f x 0 1 = some b ∧ impl_within.f x 0 1 = some b := by
    intro x
    unfold spec_l01In.f impl_within.f
    split <;> exact ⟨_, rfl, rfl⟩
  obtain ⟨b, h1, h2⟩ := e n
  rw [h1, h2]
  simp only [Option.bind_some]
  by_cases h0 : k = 0
  · simp only [h0, if_true]
    split <;> exact ⟨_, rfl, rfl⟩
  · by_cases h1 : k = 1
    · subst h1
      simp only [h0, if_false, if_true]
      split <;> exact ⟨_, rfl, rfl⟩
    · by_cases h2 : k = 2
      · subst h2
        simp only [h0, h1, if_false, if_true]
        exact ⟨_, rfl, rfl⟩
      · by_cases h3 : k = 3
        · subst h3
          by_cases hn : n = 0 <;> simp [hn]
        · by_cases h4 : k = 4
          · subst h4
            by_cases hn : n = 0 <;> simp [hn]
          · simp [h0, h1, h2, h3, h4]

theorem FnExactValueOK : Pure := by
  intro x _
  obtain ⟨b, h1, h2⟩ := alike x.f0 x.f1 x.f2
  unfold laws_FnExactValueOK.f laws_szValue.f laws_toValue.f
  split <;> simp [h1, h2]

end Go.Proofs.Ytnljfjicopffbaa.fnExactValueOK.Pure
