/- For all pairs of values whose texts have at most 2^20 bytes together the program's CompareValues answers what the reference's CompareValues answers (others the law passes by); no condition. -/
import Derived.Test.YtnljfjicopffbaaXOpenFnExactCompareValues
import Derived.Test.YtnljfjicopffbaaAid
namespace Go.Proofs.Ytnljfjicopffbaa.fnExactCompareValues.Pure
open Go Go.RowKit Go.Proofs.Ytnljfjicopffbaa.XVals Go.Proofs.YtnljfjicopffbaaW.PrintWords Go.Proofs.YtnljfjicopffbaaW.PrintLast Go.Proofs.YtnljfjicopffbaaW.PrintMore Go.Proofs.Ytnljfjicopffbaa.Opn
open Go.Proofs.Ytnljfjicopffbaa.Xtra Go.Proofs.Ytnljfjicopffbaa.Aid

theorem ok_alike (k n : Int) (t : ByteArray) : ∃ b, spec_ValueOK.f k n t = some b ∧ impl_ValueOK.f k n t = some b := by
  unfold spec_ValueOK.f impl_ValueOK.f impl_hasText.f
  have e : ∀ x : Int, ∃ b, spec_l01In.f x 0 1 = some b ∧ impl_within.f x 0 1 = some b := by
    intro x
    unfold spec_l01In.f impl_within.f
    split <;> exact ⟨_, rfl, rfl⟩
  obtain ⟨b, h1, h2⟩ := e n
  rw [h1, h2]
  simp only [Option.bind_some]
  by_cases h0 : k = 0
  · simp only [h0, if_true]
    split <;> exact ⟨_, rfl, rfl⟩
  · by_cases h1 : k = 1
    · subst h1
      simp only [h0, if_false, if_true]
      split <;> exact ⟨_, rfl, rfl⟩
    · by_cases h2 : k = 2
      · subst h2
        simp only [h0, h1, if_false, if_true]
        exact ⟨_, rfl, rfl⟩
      · by_cases h3 : k = 3
        · subst h3
          by_cases hn : n = 0 <;> simp [hn]
        · by_cases h4 : k = 4
          · subst h4
            by_cases hn : n = 0 <;> simp [hn]
          · simp [h0, h1, h2, h3, h4]

/-- What is less, alike or greater. -/
def sgn (less alike : Bool) : Int := if less then -1 else if alike then 0 else 1
theorem cmp_int (a b : Int) : cmp_Compare_int.f a b = some (sgn (decide (a < b)) (decide (a = b))) := by
  unfold cmp_Compare_int.f cmp_isNaN_int.f sgn
  simp only [bne_self_eq_false, Option.bind_some, Bool.false_eq_true, if_false]
  by_cases h : a < b
  · simp [h]
  · by_cases h' : a = b
    · subst h'
      simp
    · simp [h, h']
      omega
theorem cmp_str (a b : ByteArray) : cmp_Compare_string.f a b = some (sgn (Op.bytesLess a.toList b.toList) (a.toList == b.toList)) := by
  unfold cmp_Compare_string.f cmp_isNaN_string.f sgn
  simp only [bne_self_eq_false, Option.bind_some, Bool.false_eq_true, if_false]
  by_cases h : Op.bytesLess a.toList b.toList = true
  · simp [h]
  · have h0 : Op.bytesLess a.toList b.toList = false := by simpa using h
    by_cases h' : a.toList = b.toList
    · rw [if_neg h, if_neg (by rw [h', less_irrefl]; simp), h0, h']
      simp
    · rw [if_neg h, if_pos (less_total _ _ h0 h'), h0]
      simp [h']
theorem sgn_zero (l e : Bool) : sgn l e = 0 ↔ l = false ∧ e = true := by
  cases l <;> cases e <;> simp [sgn]

theorem or_three (k : Nat) (x y z : Int) : cmp_Or_int.f (k + 4) [x, y, z] = some (if x = 0 then if y = 0 then z else y else x) := by
  unfold cmp_Or_int.f
  by_cases hx : x = 0 <;> by_cases hy : y = 0 <;> by_cases hz : z = 0 <;> simp [cmp_Or_int.l0, rd, w1, w2, w3, hx, hy, hz]

theorem compare_alike (k : Nat) (a0 a1 : Int) (a2 : ByteArray) (b0 b1 : Int) (b2 : ByteArray) : ∃ r, spec_l01Compare.f a0 a1 a2 b0 b1 b2 = some r ∧ impl_compareValues.f (k + 4) a0 a1 a2 b0 b1 b2 = some r := by
  unfold impl_compareValues.f spec_l01Compare.f
  rw [cmp_int, cmp_int, cmp_str]
  simp only [Option.bind_some, or_three]
  refine ⟨_, ?_, rfl⟩
  have hs : ∀ l e, spec_l01Sign.f l e = some (sgn l e) := by
    intro l e
    unfold spec_l01Sign.f sgn
    cases l <;> cases e <;> rfl
  simp only [hs, Option.bind_some]
  by_cases h0 : a0 = b0
  · subst h0
    by_cases h1 : a1 = b1
    · subst h1
      simp [sgn]
    · simp only [if_true, sgn_zero, decide_eq_true_eq, h1, and_false, if_false]
      simp [sgn]
  · simp only [sgn_zero, decide_eq_true_eq, h0, and_false, if_false]
    simp

theorem FnExactCompareValues : Pure := by
  intro x y _ _
  refine ⟨4, ?_⟩
  obtain ⟨b, h1, h2⟩ := ok_alike x.f0 x.f1 x.f2
  obtain ⟨c, h3, h4⟩ := ok_alike y.f0 y.f1 y.f2
  obtain ⟨r, h5, h6⟩ := compare_alike 0 x.f0 x.f1 x.f2 y.f0 y.f1 y.f2
  have hz : ∀ (a b : Int) (t : ByteArray) (l : Int), ∃ q, laws_szValue.f a b t l = some q := by
    intro a b t l
    unfold laws_szValue.f
    split <;> exact ⟨_, rfl⟩
  unfold laws_FnExactCompareValues.f laws_toValue.f spec_CompareValues.f impl_CompareValues.f
  obtain ⟨q, hq⟩ := hz x.f0 x.f1 x.f2 1048576
  obtain ⟨q', hq'⟩ := hz y.f0 y.f1 y.f2 q
  rw [hq]
  simp only [Option.bind_some, hq']
  split
  · rfl
  · split
    · rfl
    · simp only [h1, h2, h3, h4, h5, h6, Option.bind_some]
      cases b <;> cases c <;> simp

end Go.Proofs.Ytnljfjicopffbaa.fnExactCompareValues.Pure
