/- For every text of at most 2^20 bytes the program's NameOK answers what the reference's NameOK answers (longer ones the law passes by); no condition. -/
import Derived.Test.YtnljfjicopffbaaPFnExactNameOKx1
namespace Go.Proofs.Ytnljfjicopffbaa.Pure
open Go.RowKit Go.Proofs.Ytnljfjicopffbaa.PFnExactNameOK Go.Proofs.YtnljfjicopffbaaW.PrintWords Go.Proofs.YtnljfjicopffbaaW.PrintLast

theorem letter_alike (c : Int) : impl_isLetter.f c = spec_l00Letter.f c := rfl
theorem digit_alike (c : Int) : impl_isDigit.f c = spec_l00Digit.f c := rfl
theorem letter_some (c : Int) : ∃ b, spec_l00Letter.f c = some b := by
  unfold spec_l00Letter.f
  repeat' split
  all_goals exact ⟨_, rfl⟩
theorem digit_some (c : Int) : ∃ b, spec_l00Digit.f c = some b := by
  unfold spec_l00Digit.f
  split <;> exact ⟨_, rfl⟩
theorem wrap_next {i : Int} {n : Nat} (h0 : 0 ≤ i) (h : i < (n : Int)) (hn : n ≤ 140737488351232) : wrap64 (i + 1) = i + 1 := by
  unfold wrap64
  omega

/-- From the second byte on both loops say the same, but that the program asks for the length behind it. -/
theorem loops_alike (s : ByteArray) (hn : s.size ≤ 140737488351232) (d : Nat) : ∀ (k : Nat) (i : Int), 1 ≤ i → i ≤ s.size → (s.size : Int) - i = d → d < k →
    ∃ b, spec_l00Word.l0 k s i = some b ∧ (b = true → impl_NameOK.l0 k s s.size i = impl_within.f s.size 1 40) ∧ (b = false → impl_NameOK.l0 k s s.size i = some false) := by
  induction d with
  | zero =>
    intro k i h0 h1 hd hk
    obtain ⟨k, rfl⟩ : ∃ m, k = m + 1 := ⟨k - 1, by omega⟩
    refine ⟨true, ?_, fun _ => ?_, fun h => by cases h⟩
    · simp only [spec_l00Word.l0]
      rw [if_neg (by omega)]
    · simp only [impl_NameOK.l0]
      rw [if_neg (by omega)]
      simp
  | succ d ih =>
    intro k i h0 h1 hd hk
    obtain ⟨k, rfl⟩ : ∃ m, k = m + 1 := ⟨k - 1, by omega⟩
    have hlt : i < (s.size : Int) := by omega
    have hz : ¬ i = 0 := by omega
    obtain ⟨b, hb, hp, hq⟩ := ih k (i + 1) (by omega) (by omega) (by omega) (by omega)
    obtain ⟨x, hx⟩ := letter_some (bt s i)
    obtain ⟨y, hy⟩ := digit_some (bt s i)
    simp only [spec_l00Word.l0, impl_NameOK.l0, letter_alike, digit_alike]
    rw [if_pos hlt, if_pos (show (0 : Int) ≤ i by omega), if_pos hlt, if_pos (show (0 : Int) ≤ i by omega), if_pos hlt, hx, hy]
    simp only [Option.bind_some, wrap_next (show (0 : Int) ≤ i by omega) hlt hn]
    cases x with
    | true => exact ⟨b, by simpa using hb, fun h => by simpa using hp h, fun h => by simpa using hq h⟩
    | false =>
      cases y with
      | true => exact ⟨b, by simpa using hb, fun h => by simpa [hz] using hp h, fun h => by simpa [hz] using hq h⟩
      | false => exact ⟨false, by simp, fun h => by simp at h, fun h => by simp [hz]⟩

theorem within_no (n : Int) (h : n < 1 ∨ 40 < n) : impl_within.f n 1 40 = some false := by
  unfold impl_within.f
  split
  · rw [decide_eq_false (by omega)]
  · rfl
theorem within_yes (n : Int) (h : 1 ≤ n) (h' : n ≤ 40) : impl_within.f n 1 40 = some true := by
  unfold impl_within.f
  rw [if_pos h, decide_eq_true h']

theorem FnExactNameOK : laws_FnExactNameOK.Pure := by
  intro s hn
  obtain ⟨K, hK⟩ : ∃ K, K = s.size + 1 := ⟨_, rfl⟩
  refine ⟨K + 1, ?_⟩
  suffices h : ∃ r, spec_NameOK.f (K + 1) s = some r ∧ impl_NameOK.f (K + 1) s = some r by
    obtain ⟨r, h1, h2⟩ := h
    unfold laws_FnExactNameOK.f
    rw [h1, h2]
    simp
  unfold spec_NameOK.f spec_l00Word.f impl_NameOK.f
  rw [impl_NameOK.l0]
  simp only [spec_l00Word.j0]
  by_cases hs : s.size = 0
  · refine ⟨false, ?_, ?_⟩
    · rw [if_pos (by omega)]
      simp
    · rw [if_neg (by omega), within_no _ (by omega)]
      rfl
  · have hlt : (0 : Int) < (s.size : Int) := by omega
    obtain ⟨b, hb, hp, hq⟩ := loops_alike s hn (s.size - 1) K 1 (by omega) (by omega) (by omega) (by omega)
    have h01 : wrap64 (0 + 1) = 1 := by
      unfold wrap64
      omega
    obtain ⟨x, hx⟩ := letter_some (bt s 0)
    simp only [letter_alike, hlt, Int.le_refl, if_true, hx, Option.bind_some, h01, hb]
    by_cases h40 : (s.size : Int) > 40
    · refine ⟨false, by rw [if_neg (by omega), if_pos h40]; simp, ?_⟩
      cases x with
      | false => simp
      | true =>
        rw [if_pos rfl]
        cases b with
        | true => rw [hp rfl, within_no _ (by omega)]
        | false => exact hq rfl
    · rw [if_neg (by omega), if_neg h40]
      cases x with
      | false => exact ⟨false, by simp, by simp⟩
      | true =>
        refine ⟨b, by simp, ?_⟩
        rw [if_pos rfl]
        cases b with
        | true => rw [hp rfl, within_yes _ (by omega) (by omega)]
        | false => exact hq rfl

end Go.Proofs.Ytnljfjicopffbaa.Pure
