/- For all codes: the drawn values are right, and the program's order on them is one order, the reference's; no condition. -/
import Derived.Test.YtnljfjicopffbaaXO6
import Derived.Test.YtnljfjicopffbaaAid
namespace Go.Proofs.Ytnljfjicopffbaa.PureOrder
open Go Go.RowKit Go.Proofs.Ytnljfjicopffbaa.XO Go.Proofs.YtnljfjicopffbaaW.PrintWords Go.Proofs.YtnljfjicopffbaaW.PrintLast Go.Proofs.YtnljfjicopffbaaW.PrintMore
open Go.Proofs.Ytnljfjicopffbaa.Xtra Go.Proofs.Ytnljfjicopffbaa.Aid

theorem byte_ok (l : List Int) (hl : ∀ x ∈ l, 0 ≤ x ∧ x < 256) (hn : l.length ≤ 140737488351232) (a s m : Int) (h0 : 0 ≤ a) (hm : a ≤ m) (h1 : m ≤ 1000000) (h2 : 0 ≤ s) (h3 : s < 2147483648) :
    ∃ b a' s', spec_l00Src_byte.f l a s = some (b, a', s') ∧ 0 ≤ b ∧ b ≤ 255 ∧ 0 ≤ a' ∧ a' ≤ m + 1 ∧ 0 ≤ s' ∧ s' < 2147483648 := by
  unfold spec_l00Src_byte.f
  rw [wrap_id (x := a + 1) (by omega) (by omega)]
  by_cases hlt : a + 1 ≤ (l.length : Int)
  · rw [if_pos hlt, wrap_id (x := a + 1 - 1) (by omega) (by omega), if_pos (by omega), if_pos (by omega)]
    have hr : 0 ≤ rd l (a + 1 - 1) ∧ rd l (a + 1 - 1) < 256 := by
      have hi : (a + 1 - 1).toNat < l.length := by omega
      have : rd l (a + 1 - 1) ∈ l := by
        simp only [rd, List.getD_eq_getElem?_getD, List.getElem?_eq_getElem hi, Option.getD_some]
        exact List.getElem_mem _
      exact hl _ this
    obtain ⟨b, hb⟩ : ∃ b, b = rd l (a + 1 - 1) := ⟨_, rfl⟩
    rw [← hb] at hr ⊢
    rw [wrap_id (x := b) (by omega) (by omega), wrap_id (x := s * 31) (by omega) (by omega), wrap_id (x := s * 31 + b) (by omega) (by omega), wrap_id (x := s * 31 + b + 7) (by omega) (by omega),
      Int.tmod_eq_emod_of_nonneg (show 0 ≤ s * 31 + b + 7 by omega)]
    exact ⟨_, _, _, rfl, by omega, by omega, by omega, by omega, by omega, by omega⟩
  · rw [if_neg hlt]
    by_cases hb : a + 1 > 3000
    · rw [if_pos hb]
      exact ⟨_, _, _, rfl, by omega, by omega, by omega, by omega, by omega, by omega⟩
    · rw [if_neg hb, wrap_id (x := s * 1103515245) (by omega) (by omega), wrap_id (x := s * 1103515245 + 12345) (by omega) (by omega), Int.tmod_eq_emod_of_nonneg (show 0 ≤ s * 1103515245 + 12345 by omega)]
      obtain ⟨z, hz⟩ : ∃ z, z = (s * 1103515245 + 12345) % 2147483648 := ⟨_, rfl⟩
      rw [← hz]
      have hz0 : 0 ≤ z ∧ z < 2147483648 := by omega
      rw [Int.tdiv_eq_ediv_of_nonneg hz0.1, wrap_id (x := z / 65536) (by omega) (by omega), Int.tmod_eq_emod_of_nonneg (show 0 ≤ z / 65536 by omega)]
      exact ⟨_, _, _, rfl, by omega, by omega, by omega, by omega, by omega, by omega⟩
theorem next_ok (l : List Int) (hl : ∀ x ∈ l, 0 ≤ x ∧ x < 256) (hn : l.length ≤ 140737488351232) (n a s m : Int) (n0 : 1 ≤ n) (n1 : n ≤ 256) (h0 : 0 ≤ a) (hm : a ≤ m) (h1 : m ≤ 1000000) (h2 : 0 ≤ s) (h3 : s < 2147483648) :
    ∃ r a' s', spec_l00Src_next.f l a s n = some (r, a', s') ∧ 0 ≤ r ∧ r < n ∧ 0 ≤ a' ∧ a' ≤ m + 1 ∧ 0 ≤ s' ∧ s' < 2147483648 := by
  unfold spec_l00Src_next.f
  by_cases hn1 : n ≤ 1
  · rw [if_pos hn1]
    exact ⟨_, _, _, rfl, by omega, by omega, by omega, by omega, by omega, by omega⟩
  · obtain ⟨b, a', s', hb, b0, b1, a0, a1, s0, s1⟩ := byte_ok l hl hn a s m h0 hm h1 h2 h3
    rw [if_neg hn1, if_pos n1, hb]
    simp only [Option.bind_some]
    rw [if_neg (by omega), Int.tmod_eq_emod_of_nonneg b0]
    exact ⟨_, _, _, rfl, Int.emod_nonneg _ (by omega), Int.emod_lt_of_pos _ (by omega), a0, a1, s0, s1⟩

/-- What is drawn: a kind, a number, a text. -/
def Right (kd n : Int) (t : ByteArray) : Prop := kd = 0 ∧ n = 0 ∧ t.toList = [] ∨ kd = 1 ∧ 0 ≤ n ∧ n ≤ 1 ∧ t.toList = [] ∨ kd = 2 ∧ t.toList = [] ∨ (kd = 3 ∨ kd = 4) ∧ n = 0 ∧ t.size ≤ 60

theorem nil_list : (⟨#[]⟩ : ByteArray).toList = [] := by decide +kernel
theorem word_ok (l : List Int) (hl : ∀ x ∈ l, 0 ≤ x ∧ x < 256) (hn : l.length ≤ 140737488351232) (a s m : Int) (h0 : 0 ≤ a) (hm : a ≤ m) (h1 : m ≤ 1000000) (h2 : 0 ≤ s) (h3 : s < 2147483648) :
    ∃ t a' s', spec_l00Src_word.f l a s = some (t, a', s') ∧ t.size ≤ 60 := by
  unfold spec_l00Src_word.f spec_l00Src_pick.f
  obtain ⟨r, a', s', hr, r0, r1, _⟩ := next_ok l hl hn 10 a s m (by omega) (by omega) h0 hm h1 h2 h3
  obtain ⟨L, hL⟩ : ∃ L : List ByteArray, L = [(⟨#[]⟩ : ByteArray), (⟨#[97]⟩ : ByteArray), (⟨#[98]⟩ : ByteArray), (⟨#[111, 112, 101, 110]⟩ : ByteArray), (⟨#[97, 110, 110]⟩ : ByteArray), (⟨#[105, 116, 39, 115]⟩ : ByteArray), (⟨#[0]⟩ : ByteArray), (⟨#[97, 0, 98]⟩ : ByteArray), (⟨#[255]⟩ : ByteArray), (⟨#[100, 111, 110, 101]⟩ : ByteArray)] := ⟨_, rfl⟩
  rw [← hL]
  have hlen : L.length = 10 := by rw [hL]; rfl
  have hsz : ∀ t ∈ L, t.size ≤ 60 := by
    rw [hL]
    intro t ht
    simp only [List.mem_cons, List.not_mem_nil, or_false] at ht
    rcases ht with rfl | rfl | rfl | rfl | rfl | rfl | rfl | rfl | rfl | rfl <;> decide
  rw [hlen]
  rw [if_neg (by decide)]
  rw [show ((10 : Nat) : Int) = 10 from rfl, hr]
  simp only [Option.bind_some]
  rw [if_pos r0, if_pos r1]
  refine ⟨_, _, _, rfl, ?_⟩
  have hi : r.toNat < L.length := by omega
  have : rdOf ByteArray.empty L r ∈ L := by
    simp only [rdOf, List.getD_eq_getElem?_getD, List.getElem?_eq_getElem hi, Option.getD_some]
    exact List.getElem_mem _
  exact hsz _ this

theorem value_ok (l : List Int) (hl : ∀ x ∈ l, 0 ≤ x ∧ x < 256) (hn : l.length ≤ 140737488351232) (k : Nat) :
    ∃ kd n t, spec_ValueOf.f (k + 1) l = some (kd, n, t) ∧ Right kd n t := by
  unfold spec_ValueOf.f spec_l00Source.f
  simp only [Option.bind_some]
  have hs : 0 ≤ (l.length : Int) % 1000 ∧ (l.length : Int) % 1000 < 2147483648 := by omega
  obtain ⟨s0, hs0⟩ : ∃ s0, s0 = (l.length : Int) % 1000 := ⟨_, rfl⟩
  rw [← hs0] at hs ⊢
  unfold spec_l00Src_value.f
  obtain ⟨r, a1, s1, hr, r0, r1, x0, x1, x2, x3⟩ := next_ok l hl hn 6 0 s0 0 (by omega) (by omega) (by omega) (by omega) (by omega) hs.1 hs.2
  rw [hr]
  simp only [Option.bind_some]
  by_cases c0 : r = 0
  · rw [if_pos c0]
    exact ⟨_, _, _, rfl, .inl ⟨rfl, rfl, nil_list⟩⟩
  rw [if_neg c0]
  by_cases c1 : r = 1
  · rw [if_pos c1]
    obtain ⟨b, a2, s2, hb, b0, b1, _⟩ := next_ok l hl hn 2 a1 s1 1 (by omega) (by omega) x0 (by omega) (by omega) x2 x3
    rw [hb]
    exact ⟨_, _, _, rfl, .inr (.inl ⟨rfl, b0, (show b ≤ 1 by omega), nil_list⟩)⟩
  rw [if_neg c1]
  have ints : ∃ kd n t, ((spec_l00Src_value.j0 (k + 1) r true l a1 s1).bind fun bt201 => some (bt201.1, bt201.2.1, bt201.2.2.1)) = some (kd, n, t) ∧ Right kd n t := by
    simp only [spec_l00Src_value.j0, if_true]
    obtain ⟨p, a2, s2, hp, _, _, y0, y1, y2, y3⟩ := next_ok l hl hn 10 a1 s1 1 (by omega) (by omega) x0 (by omega) (by omega) x2 x3
    rw [hp]
    simp only [Option.bind_some]
    obtain ⟨q, a3, s3, hq, _, _, z0, z1, z2, z3⟩ := next_ok l hl hn 10 a2 s2 2 (by omega) (by omega) y0 (by omega) (by omega) y2 y3
    rw [hq]
    simp only [Option.bind_some]
    unfold spec_l00Src_odd.f
    obtain ⟨o, a4, s4, ho, o0, o1, u0, u1, u2, u3⟩ := next_ok l hl hn 12 a3 s3 3 (by omega) (by omega) z0 (by omega) (by omega) z2 z3
    rw [ho]
    simp only [Option.bind_some]
    rw [if_pos o0, if_pos (by simpa using o1)]
    simp only [Option.bind_some]
    obtain ⟨i, a5, s5, hi, i0, i1, _⟩ := next_ok l hl hn 3 a4 s4 4 (by omega) (by omega) u0 (by omega) (by omega) u2 u3
    rw [hi]
    simp only [Option.bind_some]
    rw [if_pos i0, if_pos (by simpa using i1)]
    exact ⟨_, _, _, rfl, .inr (.inr (.inl ⟨rfl, nil_list⟩))⟩
  have texts : ∃ kd n t, ((spec_l00Src_value.j0 (k + 1) r false l a1 s1).bind fun bt201 => some (bt201.1, bt201.2.1, bt201.2.2.1)) = some (kd, n, t) ∧ Right kd n t := by
    obtain ⟨t, a2, s2, ht, tz⟩ := word_ok l hl hn a1 s1 1 x0 (by omega) (by omega) x2 x3
    simp only [spec_l00Src_value.j0, Bool.false_eq_true, if_false, ht, Option.bind_some]
    split
    · exact ⟨_, _, _, rfl, .inr (.inr (.inr ⟨.inl rfl, rfl, tz⟩))⟩
    · exact ⟨_, _, _, rfl, .inr (.inr (.inr ⟨.inr rfl, rfl, tz⟩))⟩
  by_cases c2 : r = 2
  · rw [if_pos c2, show (r == 2) = true from beq_iff_eq.2 c2]
    exact ints
  rw [if_neg c2]
  by_cases c3 : r = 3
  · rw [show (r == 3) = true from beq_iff_eq.2 c3]
    exact ints
  · rw [show (r == 3) = false from beq_eq_false_iff_ne.2 c3]
    exact texts

theorem right_spec (k : Nat) (kd n : Int) (t : ByteArray) (h : Right kd n t) : spec_ValueOK.f (k + 1) kd n t = some true := by
  unfold spec_ValueOK.f spec_l01In.f
  rcases h with ⟨rfl, rfl, ht⟩ | ⟨rfl, h0, h1, ht⟩ | ⟨rfl, ht⟩ | ⟨rfl | rfl, rfl, ht⟩
  · simp [ht]
  · simp [ht, h0, h1]
  · simp [ht]
  · have : (t.size : Int) ≤ 60 := by omega
    simp [spec_ValueOK.j0, this]
  · have : (t.size : Int) ≤ 60 := by omega
    simp [spec_ValueOK.j0, this]
theorem right_impl (kd n : Int) (t : ByteArray) (h : Right kd n t) : impl_ValueOK.f kd n t = some true := by
  unfold impl_ValueOK.f impl_hasText.f impl_within.f
  rcases h with ⟨rfl, rfl, ht⟩ | ⟨rfl, h0, h1, ht⟩ | ⟨rfl, ht⟩ | ⟨rfl | rfl, rfl, ht⟩
  · simp [ht]
  · simp [ht, h0, h1]
  · simp [ht]
  · have : (t.size : Int) ≤ 60 := by omega
    simp [this]
  · have : (t.size : Int) ≤ 60 := by omega
    simp [this]

/-! The order -/
def sgn (less alike : Bool) : Int := if less then -1 else if alike then 0 else 1
theorem cmp_int (a b : Int) : cmp_Compare_int.f a b = some (sgn (decide (a < b)) (decide (a = b))) := by
  unfold cmp_Compare_int.f cmp_isNaN_int.f sgn
  simp only [bne_self_eq_false, Option.bind_some, Bool.false_eq_true, if_false]
  by_cases h : a < b
  · simp [h]
  · by_cases h' : a = b
    · subst h'
      simp
    · simp [h, h']
      omega
theorem cmp_str (a b : ByteArray) : cmp_Compare_string.f a b = some (sgn (Op.bytesLess a.toList b.toList) (a.toList == b.toList)) := by
  unfold cmp_Compare_string.f cmp_isNaN_string.f sgn
  simp only [bne_self_eq_false, Option.bind_some, Bool.false_eq_true, if_false]
  by_cases h : Op.bytesLess a.toList b.toList = true
  · simp [h]
  · have h0 : Op.bytesLess a.toList b.toList = false := by simpa using h
    by_cases h' : a.toList = b.toList
    · rw [if_neg h, if_neg (by rw [h', less_irrefl]; simp), h0, h']
      simp
    · rw [if_neg h, if_pos (less_total _ _ h0 h'), h0]
      simp [h']
theorem sgn_zero (l e : Bool) : sgn l e = 0 ↔ l = false ∧ e = true := by
  cases l <;> cases e <;> simp [sgn]
theorem or_three (k : Nat) (x y z : Int) : cmp_Or_int.f (k + 4) [x, y, z] = some (if x = 0 then if y = 0 then z else y else x) := by
  unfold cmp_Or_int.f
  by_cases hx : x = 0 <;> by_cases hy : y = 0 <;> by_cases hz : z = 0 <;> simp [cmp_Or_int.l0, rd, w1, w2, w3, hx, hy, hz]
theorem sign_some (l e : Bool) : spec_l01Sign.f l e = some (sgn l e) := by
  unfold spec_l01Sign.f sgn
  cases l <;> cases e <;> rfl
/-- How two values stand. -/
def ord (a0 a1 : Int) (a2 : List UInt8) (b0 b1 : Int) (b2 : List UInt8) : Int :=
  if a0 = b0 then if a1 = b1 then sgn (Op.bytesLess a2 b2) (a2 == b2) else if a1 < b1 then -1 else 1 else if a0 < b0 then -1 else 1
theorem compare_both (k : Nat) (a0 a1 : Int) (a2 : ByteArray) (b0 b1 : Int) (b2 : ByteArray) : spec_l01Compare.f a0 a1 a2 b0 b1 b2 = some (ord a0 a1 a2.toList b0 b1 b2.toList) ∧ impl_compareValues.f (k + 4) a0 a1 a2 b0 b1 b2 = some (ord a0 a1 a2.toList b0 b1 b2.toList) := by
  unfold impl_compareValues.f spec_l01Compare.f ord
  rw [cmp_int, cmp_int, cmp_str]
  simp only [Option.bind_some, or_three, sign_some]
  by_cases h0 : a0 = b0
  · subst h0
    by_cases h1 : a1 = b1
    · subst h1
      simp [sgn]
    · simp only [if_true, sgn_zero, decide_eq_true_eq, h1, and_false, if_false]
      simp [sgn]
  · simp only [sgn_zero, decide_eq_true_eq, h0, and_false, if_false]
    simp [sgn]
theorem ord_range (a0 a1 : Int) (a2 : List UInt8) (b0 b1 : Int) (b2 : List UInt8) : -1 ≤ ord a0 a1 a2 b0 b1 b2 ∧ ord a0 a1 a2 b0 b1 b2 ≤ 1 := by
  unfold ord sgn
  repeat' split
  all_goals omega
theorem str_turn (x y : List UInt8) : sgn (Op.bytesLess x y) (x == y) = -sgn (Op.bytesLess y x) (y == x) := by
  unfold sgn
  cases h : Op.bytesLess x y with
  | true =>
    have h1 := less_asymm x y h
    have h2 : (y == x) = false := by
      rw [beq_eq_false_iff_ne]
      rintro rfl
      rw [less_irrefl] at h
      cases h
    rw [h1, h2]
    rfl
  | false =>
    by_cases e : x = y
    · subst e
      simp [less_irrefl]
    · have h1 := less_total x y h e
      have h2 : (x == y) = false := beq_eq_false_iff_ne.2 e
      rw [h1, h2]
      rfl
theorem ord_turn (a0 a1 : Int) (a2 : List UInt8) (b0 b1 : Int) (b2 : List UInt8) : ord a0 a1 a2 b0 b1 b2 = -ord b0 b1 b2 a0 a1 a2 := by
  unfold ord
  by_cases h0 : a0 = b0
  · subst h0
    by_cases h1 : a1 = b1
    · subst h1
      simp only [if_true]
      exact str_turn a2 b2
    · have h1' : ¬ b1 = a1 := fun h => h1 h.symm
      simp only [if_true, if_neg h1, if_neg h1']
      by_cases h : a1 < b1
      · have h2 : ¬ b1 < a1 := by omega
        simp only [if_pos h, if_neg h2]
      · have h2 : b1 < a1 := by omega
        simp only [if_neg h, if_pos h2]
        rfl
  · have h0' : ¬ b0 = a0 := fun h => h0 h.symm
    simp only [if_neg h0, if_neg h0']
    by_cases h : a0 < b0
    · have h2 : ¬ b0 < a0 := by omega
      simp only [if_pos h, if_neg h2]
    · have h2 : b0 < a0 := by omega
      simp only [if_neg h, if_pos h2]
      rfl
theorem ord_zero (a0 a1 : Int) (a2 : List UInt8) (b0 b1 : Int) (b2 : List UInt8) : ord a0 a1 a2 b0 b1 b2 = 0 ↔ a0 = b0 ∧ a1 = b1 ∧ a2 = b2 := by
  unfold ord
  by_cases h0 : a0 = b0
  · by_cases h1 : a1 = b1
    · rw [if_pos h0, if_pos h1, sgn_zero]
      constructor
      · rintro ⟨_, h⟩
        exact ⟨h0, h1, beq_iff_eq.1 h⟩
      · rintro ⟨_, _, rfl⟩
        exact ⟨less_irrefl _, by simp⟩
    · rw [if_pos h0, if_neg h1]
      constructor
      · intro h
        split at h <;> omega
      · rintro ⟨_, h, _⟩
        exact absurd h h1
  · rw [if_neg h0]
    constructor
    · intro h
      split at h <;> omega
    · rintro ⟨h, _⟩
      exact absurd h h0
theorem str_le (x y : List UInt8) : sgn (Op.bytesLess x y) (x == y) ≤ 0 ↔ Op.bytesLess y x = false := by
  unfold sgn
  cases h : Op.bytesLess x y with
  | true => simp [less_asymm x y h]
  | false =>
    by_cases e : x = y
    · subst e
      simp [less_irrefl]
    · have h2 : (x == y) = false := beq_eq_false_iff_ne.2 e
      rw [h2, less_total x y h e]
      simp
theorem str_trans (x y z : List UInt8) (h : Op.bytesLess y x = false) (h' : Op.bytesLess z y = false) : Op.bytesLess z x = false := by
  cases hz : Op.bytesLess z x with
  | false => rfl
  | true =>
    exfalso
    by_cases e : x = y
    · subst e
      rw [hz] at h'
      cases h'
    · have h1 := less_total y x h (fun q => e q.symm)
      have h2 := less_trans z x y hz h1
      rw [h2] at h'
      cases h'
theorem ord_trans (a0 a1 : Int) (a2 : List UInt8) (b0 b1 : Int) (b2 : List UInt8) (c0 c1 : Int) (c2 : List UInt8) (h : ord a0 a1 a2 b0 b1 b2 ≤ 0) (h' : ord b0 b1 b2 c0 c1 c2 ≤ 0) : ord a0 a1 a2 c0 c1 c2 ≤ 0 := by
  unfold ord at h h' ⊢
  by_cases x : a0 = b0
  · subst x
    rw [if_pos rfl] at h
    by_cases y : a0 = c0
    · subst y
      rw [if_pos rfl] at h' ⊢
      by_cases p : a1 = b1
      · subst p
        rw [if_pos rfl, str_le] at h
        by_cases q : a1 = c1
        · subst q
          rw [if_pos rfl, str_le] at h' ⊢
          exact str_trans _ _ _ h h'
        · rw [if_neg q] at h' ⊢
          exact h'
      · rw [if_neg p] at h
        have p1 : a1 < b1 := by
          split at h
          · assumption
          · omega
        by_cases q : b1 = c1
        · subst q
          rw [if_neg p, if_pos p1]
          omega
        · rw [if_neg q] at h'
          have q1 : b1 < c1 := by
            split at h'
            · assumption
            · omega
          rw [if_neg (by omega), if_pos (by omega)]
          omega
    · rw [if_neg y] at h' ⊢
      exact h'
  · rw [if_neg x] at h
    have x1 : a0 < b0 := by
      split at h
      · assumption
      · omega
    by_cases y : b0 = c0
    · subst y
      rw [if_neg x, if_pos x1]
      omega
    · rw [if_neg y] at h'
      have y1 : b0 < c0 := by
        split at h'
        · assumption
        · omega
      rw [if_neg (by omega), if_pos (by omega)]
      omega

theorem wf8 {x : Int} (h : (Lit.int .u8 x).wf = true) : 0 ≤ x ∧ x < 256 := by
  simp [Lit.wf, IntKind.min, IntKind.max, IntKind.signed, IntKind.bits] at h
  omega
theorem impl_compare (k : Nat) {a0 a1 : Int} {a2 : ByteArray} {b0 b1 : Int} {b2 : ByteArray} (ha : Right a0 a1 a2) (hb : Right b0 b1 b2) : impl_CompareValues.f (k + 4) a0 a1 a2 b0 b1 b2 = some (ord a0 a1 a2.toList b0 b1 b2.toList, 0) := by
  unfold impl_CompareValues.f
  rw [right_impl _ _ _ ha, right_impl _ _ _ hb, (compare_both k _ _ _ _ _ _).2]
  rfl
theorem spec_compare (k : Nat) {a0 a1 : Int} {a2 : ByteArray} {b0 b1 : Int} {b2 : ByteArray} (ha : Right a0 a1 a2) (hb : Right b0 b1 b2) : spec_CompareValues.f (k + 4) a0 a1 a2 b0 b1 b2 = some (ord a0 a1 a2.toList b0 b1 b2.toList, 0) := by
  unfold spec_CompareValues.f
  rw [right_spec _ _ _ _ ha, right_spec _ _ _ _ hb, (compare_both k _ _ _ _ _ _).1]
  rfl

theorem whole (l m : List Int) (hl : ∀ x ∈ l, 0 ≤ x ∧ x < 256) (hm : ∀ x ∈ m, 0 ≤ x ∧ x < 256) (nl : l.length ≤ 1048576) (nm : m.length ≤ 1048576) : laws_FnOrder.j0 (4 + 1 + 1) l m false = some true := by
  obtain ⟨a0, a1, a2, ha, ra⟩ := value_ok l hl (by omega) 4
  obtain ⟨b0, b1, b2, hb, rb⟩ := value_ok m hm (by omega) 4
  obtain ⟨c0, c1, c2, hc, rc⟩ := value_ok ([] ++ m ++ l) (by
    intro x hx
    simp only [List.nil_append, List.mem_append] at hx
    rcases hx with hx | hx
    · exact hm x hx
    · exact hl x hx) (by simp; omega) 4
  simp only [laws_FnOrder.j0, Bool.false_eq_true, if_false, ha, hb, Option.bind_some]
  rw [if_pos (by simp; omega), if_pos (by simp; omega), hc]
  simp only [Option.bind_some, impl_compare 1 ra rb, impl_compare 1 rb ra, impl_compare 1 rb rc, impl_compare 1 ra rc, spec_compare 1 ra rb, if_true]
  have hr := ord_range b0 b1 b2.toList a0 a1 a2.toList
  have ht := ord_turn a0 a1 a2.toList b0 b1 b2.toList
  rw [wrap_id (x := -ord b0 b1 b2.toList a0 a1 a2.toList) (by omega) (by omega), if_pos ht]
  have hz : ((ord a0 a1 a2.toList b0 b1 b2.toList == 0) != (a0 == b0 && (a1 == b1 && (a2.toList == b2.toList)))) = false := by
    have h1 := ord_zero a0 a1 a2.toList b0 b1 b2.toList
    have h2 : (ord a0 a1 a2.toList b0 b1 b2.toList == 0) = (a0 == b0 && (a1 == b1 && (a2.toList == b2.toList))) := by
      rw [Bool.eq_iff_iff]
      simp only [beq_iff_eq, Bool.and_eq_true]
      exact h1
    rw [h2]
    simp
  rw [hz]
  simp only [laws_FnOrder.j1, Bool.false_eq_true, if_false]
  by_cases h1 : ord a0 a1 a2.toList b0 b1 b2.toList ≤ 0
  · rw [if_pos h1]
    by_cases h2 : ord b0 b1 b2.toList c0 c1 c2.toList ≤ 0
    · rw [if_pos h2, decide_eq_true (ord_trans _ _ _ _ _ _ _ _ _ h1 h2)]
    · rw [if_neg h2]
  · rw [if_neg h1]
end Go.Proofs.Ytnljfjicopffbaa.PureOrder
namespace Go.Proofs.Ytnljfjicopffbaa.Pure
open Go Go.RowKit Go.Proofs.Ytnljfjicopffbaa.XO Go.Proofs.YtnljfjicopffbaaW.PrintWords Go.Proofs.YtnljfjicopffbaaW.PrintLast Go.Proofs.Ytnljfjicopffbaa.PureOrder

theorem FnOrder : laws_FnOrder.Pure := by
  intro l m _ _ hl _ _ hm
  refine ⟨4 + 1 + 1, ?_⟩
  unfold laws_FnOrder.f
  have yes : laws_FnOrder.j0 (4 + 1 + 1) l m true = some true := by simp only [laws_FnOrder.j0, if_true]
  by_cases h0 : (l.length : Int) > 1048576
  · rw [if_pos h0]
    exact yes
  rw [if_neg h0]
  by_cases h1 : (m.length : Int) > 1048576
  · rw [decide_eq_true h1]
    exact yes
  · rw [decide_eq_false h1]
    exact whole l m (fun x hx => wf8 (hl x hx)) (fun x hx => wf8 (hm x hx)) (by omega) (by omega)

end Go.Proofs.Ytnljfjicopffbaa.Pure
