/- A source of choices: each is one of those it may be; plain lemmas. -/
import Derived.Test.YtmjbacnioncicaaXF3
import Derived.Test.YtmjbacnioncicaaAid
namespace Go.Proofs.Ytmjbacnioncicaa.SrcF
open Go Go.RowKit Go.Proofs.Ytmjbacnioncicaa.XF Go.Proofs.YtmjbacnioncicaaW.PrintWords Go.Proofs.YtmjbacnioncicaaW.PrintLast Go.Proofs.YtmjbacnioncicaaW.PrintMore Go.Proofs.Ytmjbacnioncicaa.Aid
set_option linter.unusedVariables false
set_option linter.unusedSimpArgs false

theorem byte_ok (l : List Int) (hl : ∀ x ∈ l, 0 ≤ x ∧ x < 256) (hn : l.length ≤ 140737488351232) (a s m : Int) (h0 : 0 ≤ a) (hm : a ≤ m) (h1 : m ≤ 1000000) (h2 : 0 ≤ s) (h3 : s < 2147483648) :
    ∃ b a' s', spec_l00Src_byte.f l a s = some (b, a', s') ∧ 0 ≤ b ∧ b ≤ 255 ∧ 0 ≤ a' ∧ a' ≤ m + 1 ∧ 0 ≤ s' ∧ s' < 2147483648 := by
  unfold spec_l00Src_byte.f
  rw [wrap_id (x := a + 1) (by omega) (by omega)]
  by_cases hlt : a + 1 ≤ (l.length : Int)
  · rw [if_pos hlt, wrap_id (x := a + 1 - 1) (by omega) (by omega), if_pos (by omega), if_pos (by omega)]
    have hr : 0 ≤ rd l (a + 1 - 1) ∧ rd l (a + 1 - 1) < 256 := by
      have hi : (a + 1 - 1).toNat < l.length := by omega
      have : rd l (a + 1 - 1) ∈ l := by
        simp only [rd, List.getD_eq_getElem?_getD, List.getElem?_eq_getElem hi, Option.getD_some]
        exact List.getElem_mem _
      exact hl _ this
    obtain ⟨b, hb⟩ : ∃ b, b = rd l (a + 1 - 1) := ⟨_, rfl⟩
    rw [← hb] at hr ⊢
    rw [wrap_id (x := b) (by omega) (by omega), wrap_id (x := s * 31) (by omega) (by omega), wrap_id (x := s * 31 + b) (by omega) (by omega), wrap_id (x := s * 31 + b + 7) (by omega) (by omega),
      Int.tmod_eq_emod_of_nonneg (show 0 ≤ s * 31 + b + 7 by omega)]
    exact ⟨_, _, _, rfl, by omega, by omega, by omega, by omega, by omega, by omega⟩
  · rw [if_neg hlt]
    by_cases hb : a + 1 > 3000
    · rw [if_pos hb]
      exact ⟨_, _, _, rfl, by omega, by omega, by omega, by omega, by omega, by omega⟩
    · rw [if_neg hb, wrap_id (x := s * 1103515245) (by omega) (by omega), wrap_id (x := s * 1103515245 + 12345) (by omega) (by omega), Int.tmod_eq_emod_of_nonneg (show 0 ≤ s * 1103515245 + 12345 by omega)]
      obtain ⟨z, hz⟩ : ∃ z, z = (s * 1103515245 + 12345) % 2147483648 := ⟨_, rfl⟩
      rw [← hz]
      have hz0 : 0 ≤ z ∧ z < 2147483648 := by omega
      rw [Int.tdiv_eq_ediv_of_nonneg hz0.1, wrap_id (x := z / 65536) (by omega) (by omega), Int.tmod_eq_emod_of_nonneg (show 0 ≤ z / 65536 by omega)]
      exact ⟨_, _, _, rfl, by omega, by omega, by omega, by omega, by omega, by omega⟩
theorem next_ok (l : List Int) (hl : ∀ x ∈ l, 0 ≤ x ∧ x < 256) (hn : l.length ≤ 140737488351232) (n a s m : Int) (n0 : 1 ≤ n) (n1 : n ≤ 256) (h0 : 0 ≤ a) (hm : a ≤ m) (h1 : m ≤ 1000000) (h2 : 0 ≤ s) (h3 : s < 2147483648) :
    ∃ r a' s', spec_l00Src_next.f l a s n = some (r, a', s') ∧ 0 ≤ r ∧ r < n ∧ 0 ≤ a' ∧ a' ≤ m + 1 ∧ 0 ≤ s' ∧ s' < 2147483648 := by
  unfold spec_l00Src_next.f
  by_cases hn1 : n ≤ 1
  · rw [if_pos hn1]
    exact ⟨_, _, _, rfl, by omega, by omega, by omega, by omega, by omega, by omega⟩
  · obtain ⟨b, a', s', hb, b0, b1, a0, a1, s0, s1⟩ := byte_ok l hl hn a s m h0 hm h1 h2 h3
    rw [if_neg hn1, if_pos n1, hb]
    simp only [Option.bind_some]
    rw [if_neg (by omega), Int.tmod_eq_emod_of_nonneg b0]
    exact ⟨_, _, _, rfl, Int.emod_nonneg _ (by omega), Int.emod_lt_of_pos _ (by omega), a0, a1, s0, s1⟩

end Go.Proofs.Ytmjbacnioncicaa.SrcF
