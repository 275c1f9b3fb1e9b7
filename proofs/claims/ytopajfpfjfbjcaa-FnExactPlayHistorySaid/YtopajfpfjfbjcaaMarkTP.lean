/- A mark's text; plain lemmas. -/
import Derived.Test.YtopajfpfjfbjcaaXP2
import Derived.Test.YtopajfpfjfbjcaaMarkE
namespace Go.Proofs.Ytopajfpfjfbjcaa.MarkTP
open Go Go.RowKit Go.Proofs.Ytopajfpfjfbjcaa.XP Go.Proofs.YtopajfpfjfbjcaaW.PrintWords Go.Proofs.YtopajfpfjfbjcaaW.PrintLast Go.Proofs.YtopajfpfjfbjcaaW.PrintMore Go.Proofs.Ytopajfpfjfbjcaa.Aid Go.Proofs.Ytopajfpfjfbjcaa.Loops Go.Proofs.Ytopajfpfjfbjcaa.MarkE
set_option linter.unusedVariables false

/-! A mark's text -/
theorem one_size (n : Int) : (strOfNums [n]).size = 1 := rfl
theorem text_from (d : Nat) : ∀ (a : Int) (t : ByteArray), 0 ≤ a → a ≤ (d : Int) → (t.size : Int) + a ≤ 1099511627776 → ∃ r, Ev (fun k => laws_markText.l0 k a t) r := by
  induction d with
  | zero =>
    intro a t h0 h1 h2
    exact ⟨_, Ev.step (f := fun _ => some _) (fun k => by simp only [laws_markText.l0]; rw [if_neg (by omega), if_pos (by omega)]) (Ev.now _)⟩
  | succ d ih =>
    intro a t h0 h1 h2
    by_cases hp : a > 0
    · have hw : wrap64 (Int.tdiv a 10) = a / 10 := by
        rw [Int.tdiv_eq_ediv_of_nonneg h0, wrap_id (by omega) (by omega)]
      have hs : ((strOfNums [wrap64 (48 + Int.tmod a 10) % 256] ++ t).size : Int) = 1 + t.size := by
        rw [ByteArray.size_append, one_size]
        omega
      obtain ⟨r, hr⟩ := ih (a / 10) (strOfNums [wrap64 (48 + Int.tmod a 10) % 256] ++ t) (by omega) (by omega) (by rw [hs]; omega)
      refine ⟨r, Ev.step (fun k => ?_) hr⟩
      simp only [laws_markText.l0, Option.bind_some]
      rw [if_pos hp, if_pos (by rw [one_size]; omega), hw]
    · exact ⟨_, Ev.step (f := fun _ => some _) (fun k => by simp only [laws_markText.l0]; rw [if_neg hp, if_pos (by omega)]) (Ev.now _)⟩
theorem text_is (a : Int) (h : a ≤ 1073741824) : ∃ r, Ev (fun k => laws_markText.f k a) r := by
  unfold laws_markText.f
  by_cases h0 : a ≤ 0
  · exact ⟨_, Ev.congr (fun _ => if_pos h0) (Ev.now _)⟩
  · obtain ⟨r, hr⟩ := text_from a.toNat a ⟨#[]⟩ (by omega) (by omega) (by show ((0 : Nat) : Int) + a ≤ _; omega)
    exact ⟨r, Ev.congr (fun _ => if_neg h0) hr⟩
open Classical in
noncomputable def mt (a : Int) : ByteArray := if h : ∃ r, Ev (fun k => laws_markText.f k a) r then h.choose else ⟨#[]⟩
theorem mt_ev (a : Int) (h : a ≤ 1073741824) : Ev (fun k => laws_markText.f k a) (mt a) := by
  have hx := text_is a h
  unfold mt
  rw [dif_pos hx]
  exact hx.choose_spec

end Go.Proofs.Ytopajfpfjfbjcaa.MarkTP
