/- Several texts of the session in one. -/
import Derived.Test.YtcnkacbgcmnokaaXA3
import Derived.Test.YtcnkacbgcmnokaaPlain
import Derived.Test.YtcnkacbgcmnokaaXAHSpaceOK
import Derived.Test.YtcnkacbgcmnokaaXAHspecSpaceOK
import Derived.Test.YtcnkacbgcmnokaaXA6
import Derived.Test.YtcnkacbgcmnokaaXA7
import Derived.Test.YtcnkacbgcmnokaaStz
/- Numbers marked and read back; plain lemmas. -/
namespace Go.Proofs.Ytcnkacbgcmnokaa.MarkIA
open Go Go.RowKit Go.Proofs.Ytcnkacbgcmnokaa.XA Go.Proofs.YtcnkacbgcmnokaaW.PrintWords Go.Proofs.YtcnkacbgcmnokaaW.PrintLast Go.Proofs.YtcnkacbgcmnokaaW.PrintMore Go.Proofs.Ytcnkacbgcmnokaa.Aid Go.Proofs.Ytcnkacbgcmnokaa.Loops Go.Proofs.Ytcnkacbgcmnokaa.MarkE
set_option linter.unusedVariables false

theorem ints_mark (xs : List Int) (s : Int) (h0 : 0 ≤ s) (hc : s + 1 * xs.length ≤ 536870912) : Ev (fun k => laws_markIntS.f k xs s) (s + 1 * xs.length, stone (fun a => a) s 1 xs.length) := by
  unfold laws_markIntS.f
  refine markE (fun k xs a i => laws_markIntS.l0 k xs a i) xs.length s 1 (fun a => a) h0 (by omega) hc (fun i ys a r hy hi ha hb hr => ?_) (fun ys a hy => ?_) xs rfl
  · refine Ev.step (fun k => ?_) hr
    simp only [laws_markIntS.l0]
    rw [if_pos (by omega), if_pos (by omega), Int.toNat_natCast, wrap_id (x := a + 1) (by omega) (by omega), next_ (n := xs.length) hi (by omega)]
  · exact Ev.step (f := fun _ => some (a, ys)) (fun k => by simp only [laws_markIntS.l0]; rw [if_neg (by omega)]) (Ev.now _)
theorem ints_same (xs : List Int) (hl : xs.length ≤ 1048576) : Ev (fun k => laws_eqIntS.f k xs xs) true := by
  unfold laws_eqIntS.f
  refine Ev.congr (fun k => if_pos rfl) ?_
  exact eqP (fun k i => laws_eqIntS.l0 k xs xs i) xs.length (xs.length : Int) (fun i => rd xs i = rd xs i) (by omega) rfl (fun _ => rfl) (fun _ _ => rfl)
theorem ints_held (n : Nat) (s : Int) (h0 : 0 ≤ s) (hc : s + 1 * n ≤ 536870912) : Ev (fun k => laws_heldIntS.f k (stone (fun a => a) s 1 n) s) (s + 1 * n) := by
  have hl : (stone (fun a : Int => a) s 1 n).length = n := by simp [stone]
  unfold laws_heldIntS.f
  refine heldE (fun k a i => laws_heldIntS.l0 k (stone (fun a => a) s 1 n) a i) n s 1 h0 (by omega) hc (fun i r hi hb ha hr => ?_) (fun a => ?_)
  · have g : rd (stone (fun a : Int => a) s 1 n) (i : Int) = s + 1 * i := by
      show (stone (fun a : Int => a) s 1 n).getD (i : Int).toNat 0 = _
      rw [Int.toNat_natCast]
      exact stone_get (fun a : Int => a) s 1 n 0 i hi
    refine Ev.step (fun k => ?_) hr
    simp only [laws_heldIntS.l0]
    rw [hl, if_pos (by omega), if_pos (by omega), if_pos g, wrap_id (x := s + 1 * (i : Int) + 1) (by omega) (by omega), next_ (n := n) hi (by omega)]
  · exact Ev.step (f := fun _ => some a) (fun k => by simp only [laws_heldIntS.l0]; rw [hl, if_neg (by omega)]) (Ev.now _)
end Go.Proofs.Ytcnkacbgcmnokaa.MarkIA
/- Spaces: sizes, copies, likeness, and what makes a space right on both sides; plain lemmas. -/
namespace Go.Proofs.Ytcnkacbgcmnokaa.SpaA
open Go Go.RowKit Go.Proofs.Ytcnkacbgcmnokaa.XA Go.Proofs.YtcnkacbgcmnokaaW.PrintWords Go.Proofs.YtcnkacbgcmnokaaW.PrintLast Go.Proofs.YtcnkacbgcmnokaaW.PrintMore Go.Proofs.Ytcnkacbgcmnokaa.Aid Go.Proofs.Ytcnkacbgcmnokaa.Loops
set_option linter.unusedVariables false
set_option linter.unusedSimpArgs false

abbrev H0 := S77
abbrev H := S74
def conv (x : H0) : H := ⟨x.f0, x.f1⟩
theorem rdH0 (xs : List H0) (i : Nat) (h : i < xs.length) : rd_T77 xs (i : Int) = xs[i] := by
  simp [rd_T77, List.getD_eq_getElem?_getD, List.getElem?_eq_getElem h]
theorem rdH (xs : List H) (i : Nat) (h : i < xs.length) : rd_T74 xs (i : Int) = xs[i] := by
  simp [rd_T74, List.getD_eq_getElem?_getD, List.getElem?_eq_getElem h]
theorem rdI (xs : List Int) (i : Nat) (h : i < xs.length) : rd xs (i : Int) = xs[i] := by
  simp [rd, List.getD_eq_getElem?_getD, List.getElem?_eq_getElem h]
theorem ints_size (xs : List Int) (hl : xs.length ≤ 9223372036854775807) (a : Int) (h0 : 0 ≤ a) (h1 : a ≤ 1048576) :
    ∃ r, laws_szIntS.f xs a = some r ∧ r ≤ a ∧ (0 ≤ r → xs.length ≤ 1048576) := by
  unfold laws_szIntS.f
  rw [sz_text a xs.length h0 h1 (by omega) (by omega)]
  by_cases hn : a - (xs.length : Int) < 0
  · exact ⟨-1, if_pos hn, by omega, by omega⟩
  · exact ⟨_, if_neg hn, by omega, fun _ => by omega⟩
theorem helds_size (xs : List H0) (hl : xs.length ≤ 9223372036854775807) (a : Int) (h0 : 0 ≤ a) (h1 : a ≤ 1048576) :
    ∃ r, laws_szHeldS.f xs a = some r ∧ r ≤ a ∧ (0 ≤ r → xs.length ≤ 1048576) := by
  unfold laws_szHeldS.f
  rw [sz_text a xs.length h0 h1 (by omega) (by omega)]
  by_cases hn : a - (xs.length : Int) < 0
  · exact ⟨-1, if_pos hn, by omega, by omega⟩
  · exact ⟨_, if_neg hn, by omega, fun _ => by omega⟩
theorem space_size (a b : Int) (l2 : List Int) (l3 : List H0) (l4 : List Int) (h2 : l2.length ≤ 9223372036854775807) (h3 : l3.length ≤ 9223372036854775807) (h4 : l4.length ≤ 9223372036854775807) :
    ∃ r, laws_szSpace.f a b l2 l3 l4 1048576 = some r ∧ (0 ≤ r → l2.length ≤ 1048576 ∧ l3.length ≤ 1048576 ∧ l4.length ≤ 1048576) := by
  unfold laws_szSpace.f
  obtain ⟨r, hr, hra, hrl⟩ := ints_size l2 h2 1048576 (by omega) (by omega)
  rw [hr, Option.bind_some]
  by_cases hn : r < 0
  · exact ⟨-1, if_pos hn, by omega⟩
  rw [if_neg hn]
  obtain ⟨s, hs, hsa, hsl⟩ := helds_size l3 h3 r (by omega) (by omega)
  rw [hs, Option.bind_some]
  by_cases hn2 : s < 0
  · exact ⟨-1, if_pos hn2, by omega⟩
  rw [if_neg hn2]
  obtain ⟨t, ht, hta, htl⟩ := ints_size l4 h4 s (by omega) (by omega)
  rw [ht, Option.bind_some]
  by_cases hn3 : t < 0
  · exact ⟨-1, if_pos hn3, by omega⟩
  rw [if_neg hn3]
  exact ⟨t, rfl, fun h => ⟨hrl (by omega), hsl (by omega), htl h⟩⟩
theorem ints_copy (xs : List Int) (hl : xs.length ≤ 1048576) : Ev (fun k => laws_toIntS.f k xs) xs := by
  unfold laws_toIntS.f
  refine Ev.congr (fun k => (if_pos (by omega)).trans (if_pos (by simp; omega))) ?_
  have h := copyE (fun k ys i => laws_toIntS.l0 k xs ys i) xs (fun x => x) (fun _ i => some (rd xs i)) 0 (by omega) (fun i hi => by rw [rdI xs i hi]; exact Ev.now _) (fun _ _ _ => rfl)
  simpa using h
theorem helds_copy (xs : List H0) (hl : xs.length ≤ 1048576) : Ev (fun k => laws_toHeldS.f k xs) (xs.map conv) := by
  unfold laws_toHeldS.f
  refine Ev.congr (fun k => (if_pos (by omega)).trans (if_pos (by simp; omega))) ?_
  have h := copyE (fun k ys i => laws_toHeldS.l0 k xs ys i) xs conv (fun _ i => some ⟨(rd_T77 xs i).f0, (rd_T77 xs i).f1⟩) z74 (by omega) (fun i hi => by rw [rdH0 xs i hi]; exact Ev.now _) (fun _ _ _ => rfl)
  simpa using h
theorem space_copy (a b : Int) (l2 : List Int) (l3 : List H0) (l4 : List Int) (h2 : l2.length ≤ 1048576) (h3 : l3.length ≤ 1048576) (h4 : l4.length ≤ 1048576) :
    Ev (fun k => laws_toSpace.f k a b l2 l3 l4) (a, b, l2, l3.map conv, l4) := by
  unfold laws_toSpace.f
  exact Ev.bind (ints_copy l2 h2) (Ev.bind (helds_copy l3 h3) (Ev.bind (ints_copy l4 h4) (Ev.now _)))
theorem ints_same (xs : List Int) (hl : xs.length ≤ 1048576) : Ev (fun k => laws_eqIntS.f k xs xs) true := by
  unfold laws_eqIntS.f
  refine Ev.congr (fun k => if_pos rfl) ?_
  exact eqP (fun k i => laws_eqIntS.l0 k xs xs i) xs.length xs.length (fun i => rd xs i = rd xs i) (by omega) rfl (fun _ => rfl) (fun _ _ => rfl)
theorem helds_same (xs : List H) (hl : xs.length ≤ 1048576) : Ev (fun k => laws_eqHeldS.f k xs xs) true := by
  unfold laws_eqHeldS.f
  refine Ev.congr (fun k => if_pos rfl) ?_
  exact eqE (fun k i => laws_eqHeldS.l0 k xs xs i) xs.length xs.length (fun _ i => laws_eqHeld.f (rd_T74 xs i).f0 (rd_T74 xs i).f1 (rd_T74 xs i).f0 (rd_T74 xs i).f1) (by omega) rfl (fun i hi => by unfold laws_eqHeld.f; rw [if_pos rfl, if_pos rfl]; exact Ev.now _) (fun _ _ => rfl)
theorem space_same (a b : Int) (l2 : List Int) (l3 : List H) (l4 : List Int) (h2 : l2.length ≤ 1048576) (h3 : l3.length ≤ 1048576) (h4 : l4.length ≤ 1048576) :
    Ev (fun k => laws_eqSpace.f k a b l2 l3 l4 a b l2 l3 l4) true := by
  unfold laws_eqSpace.f
  refine Ev.congr (fun k => (if_pos rfl).trans (if_pos rfl)) ?_
  exact Ev.bind (ints_same l2 h2) (Ev.congr (fun k => if_pos rfl) (Ev.bind (helds_same l3 h3) (Ev.congr (fun k => if_pos rfl) (Ev.bind (ints_same l4 h4) (Ev.congr (fun k => if_pos rfl) (Ev.now _))))))

/-- When a space is right. -/
structure Good (a b : Int) (l2 : List Int) (l3 : List H) (l4 : List Int) : Prop where
  a0 : 1 ≤ a
  a1 : a ≤ 64
  b0 : 0 ≤ b
  b1 : b ≤ 1000000
  now : ∀ x ∈ l2, 0 ≤ x ∧ x ≤ a - 1
  nowUp : l2.Pairwise (· < ·)
  held : ∀ x ∈ l3.map (·.f0), 0 ≤ x ∧ x ≤ a - 1
  heldUp : (l3.map (·.f0)).Pairwise (· < ·)
  apart : ∀ x ∈ l3.map (·.f0), x ∉ l2
  since : ∀ x ∈ l3, 0 ≤ x.f1 ∧ x.f1 ≤ b - 1
  pinsFew : l4.length ≤ 4
  pins : ∀ x ∈ l4, 0 ≤ x ∧ x ≤ b
theorem rise_from (lo hi : Int) : ∀ (l : List Int) (y : Int), impl_SpaceOK.rise lo hi (some y) l = true ↔ (∀ x ∈ l, lo ≤ x ∧ x ≤ hi) ∧ (y :: l).Pairwise (· < ·)
  | [], y => by simp [impl_SpaceOK.rise]
  | x :: xs, y => by
    simp only [impl_SpaceOK.rise, Bool.and_eq_true, impl_SpaceOK.win_iff, rise_from lo hi xs x, List.mem_cons, forall_eq_or_imp, List.pairwise_cons, Bool.not_eq_true', decide_eq_false_iff_not]
    constructor
    · rintro ⟨h1, h2, h3, h4, h5⟩
      exact ⟨⟨h1, h3⟩, ⟨by omega, fun z hz => by have := h4 z hz; omega⟩, h4, h5⟩
    · rintro ⟨⟨h1, h3⟩, ⟨h2, _⟩, h4, h5⟩
      exact ⟨h1, by omega, h3, h4, h5⟩
theorem rise_iff (lo hi : Int) (l : List Int) : impl_SpaceOK.rise lo hi none l = true ↔ (∀ x ∈ l, lo ≤ x ∧ x ≤ hi) ∧ l.Pairwise (· < ·) := by
  cases l with
  | nil => simp [impl_SpaceOK.rise]
  | cons x xs =>
    simp only [impl_SpaceOK.rise, Bool.and_eq_true, impl_SpaceOK.win_iff, rise_from, List.mem_cons, forall_eq_or_imp, true_and]
    constructor
    · rintro ⟨h1, h2, h3⟩
      exact ⟨⟨h1, h2⟩, h3⟩
    · rintro ⟨⟨h1, h2⟩, h3⟩
      exact ⟨h1, h2, h3⟩
theorem impl_ok (a b : Int) (l2 : List Int) (l3 : List H) (l4 : List Int) (h3 : l3.length ≤ 1048576) :
    ∃ t, impl_SpaceOK.f a b l2 l3 l4 = some t ∧ (t = true ↔ Good a b l2 l3 l4) := by
  unfold impl_SpaceOK.f
  rw [if_pos (by omega)]
  refine ⟨_, rfl, ?_⟩
  simp only [Bool.and_eq_true, Bool.not_eq_true', impl_SpaceOK.win_iff, rise_iff, List.any_eq_false, impl_SpaceOK.q1, impl_SpaceOK.q2, impl_SpaceOK.q3, decide_eq_true_eq, Bool.not_eq_false, Bool.not_eq_true]
  constructor
  · rintro ⟨⟨h1, h2⟩, ⟨h3, h4⟩, ⟨h5, h6⟩, ⟨h7, h8⟩, h9, h10, h11, h12⟩
    have e : wrap64 (a - 1) = a - 1 := wrap_id (by omega) (by omega)
    have e2 : wrap64 (b - 1) = b - 1 := wrap_id (by omega) (by omega)
    rw [e] at h5 h7
    refine ⟨h1, h2, h3, h4, h5, h6, h7, h8, h9, fun x hx => ?_, by omega, fun x hx => ?_⟩
    · have := h10 x hx
      rwa [e2] at this
    · exact h12 x hx
  · intro g
    have := g.a0
    have := g.a1
    have := g.b0
    have := g.b1
    have e : wrap64 (a - 1) = a - 1 := wrap_id (by omega) (by omega)
    have e2 : wrap64 (b - 1) = b - 1 := wrap_id (by omega) (by omega)
    rw [e]
    refine ⟨⟨g.a0, g.a1⟩, ⟨g.b0, g.b1⟩, ⟨g.now, g.nowUp⟩, ⟨g.held, g.heldUp⟩, g.apart, fun x hx => ?_, by have := g.pinsFew; omega, fun x hx => ?_⟩
    · rw [e2]
      exact g.since x hx
    · exact g.pins x hx
theorem few : ∀ (n : Nat) (l : List Int), l.Nodup → (∀ x ∈ l, 0 ≤ x ∧ x < (n : Int)) → l.length ≤ n
  | 0, l, _, h => by
    cases l with
    | nil => simp
    | cons x xs => exact absurd (h x List.mem_cons_self) (by omega)
  | n + 1, l, hn, h => by
    have h1 := few n (l.erase (n : Int)) (hn.erase _) (fun x hx => by
      obtain ⟨hne, hm⟩ := hn.mem_erase_iff.1 hx
      have := h x hm
      omega)
    by_cases hm : (n : Int) ∈ l
    · rw [List.length_erase_of_mem hm] at h1
      omega
    · rw [List.erase_of_not_mem hm] at h1
      omega
theorem up_steps (l : List Int) (h : ∀ i (hi : i + 1 < l.length), l[i] < l[i + 1]) : l.Pairwise (· < ·) := by
  rw [List.pairwise_iff_getElem]
  have key : ∀ (d i : Nat) (hd : i + 1 + d < l.length), l[i] < l[i + 1 + d] := by
    intro d
    induction d with
    | zero => exact fun i hd => h i hd
    | succ d ih =>
      intro i hd
      have h1 := ih i (by omega)
      have h2 := h (i + 1 + d) hd
      exact Int.lt_trans h1 h2
  intro i j hi hj hij
  obtain ⟨d, rfl⟩ : ∃ d, j = i + 1 + d := ⟨j - (i + 1), by omega⟩
  exact key d i hj
theorem now_iff (a : Int) (ha : 1 ≤ a) (ha' : a ≤ 64) (l : List Int) : (List.range l.length).all (spec_SpaceOK.k2 a l) = true ↔ (∀ x ∈ l, 0 ≤ x ∧ x ≤ a - 1) ∧ l.Pairwise (· < ·) := by
  have e : wrap64 (a - 1) = a - 1 := wrap_id (by omega) (by omega)
  rw [List.all_eq_true]
  constructor
  · intro h
    have h' : ∀ i (hi : i < l.length), (0 ≤ l[i] ∧ l[i] ≤ a - 1) ∧ (0 < i → rd l ((i : Int) - 1) < l[i]) := fun i hi => by
      have := h i (by simpa using hi)
      simp only [spec_SpaceOK.k2, Bool.and_eq_true, Bool.or_eq_true, Bool.not_eq_true', decide_eq_false_iff_not, e, spec_SpaceOK.win_iff, rdI l i hi] at this
      exact ⟨this.1, fun h0 => by rcases this.2.2 with h1 | h1 <;> omega⟩
    refine ⟨fun x hx => ?_, up_steps l fun i hi => ?_⟩
    · obtain ⟨i, hi, rfl⟩ := List.getElem_of_mem hx
      exact (h' i hi).1
    · have := (h' (i + 1) hi).2 (by omega)
      rwa [show (((i + 1 : Nat) : Int) - 1) = (i : Int) by omega, rdI l i (by omega)] at this
  · rintro ⟨h1, h2⟩ i hi
    have hi' : i < l.length := by simpa using hi
    rw [List.pairwise_iff_getElem] at h2
    simp only [spec_SpaceOK.k2, Bool.and_eq_true, Bool.or_eq_true, Bool.not_eq_true', decide_eq_false_iff_not, e, spec_SpaceOK.win_iff, rdI l i hi']
    refine ⟨h1 _ (List.getElem_mem hi'), fun hm => ?_, ?_⟩
    · obtain ⟨j, hj, hjx⟩ := List.getElem_of_mem hm
      rw [List.getElem_take] at hjx
      have hj' : j < i := by simp at hj; omega
      have := h2 j i (by omega) hi' hj'
      omega
    · by_cases h0 : 0 < i
      · right
        rw [show ((i : Int) - 1) = ((i - 1 : Nat) : Int) by omega, rdI l (i - 1) (by omega)]
        have := h2 (i - 1) i (by omega) hi' (by omega)
        omega
      · left
        exact h0
theorem held_iff (a b : Int) (ha : 1 ≤ a) (ha' : a ≤ 64) (hb : 0 ≤ b) (hb' : b ≤ 1000000) (l2 : List Int) (l : List H) : (List.range l.length).all (spec_SpaceOK.k3 a b l2 l) = true ↔ (∀ x ∈ l.map (·.f0), 0 ≤ x ∧ x ≤ a - 1) ∧ (l.map (·.f0)).Pairwise (· < ·) ∧ (∀ x ∈ l.map (·.f0), x ∉ l2) ∧ (∀ x ∈ l, 0 ≤ x.f1 ∧ x.f1 ≤ b - 1) := by
  have e : wrap64 (a - 1) = a - 1 := wrap_id (by omega) (by omega)
  have e2 : wrap64 (b - 1) = b - 1 := wrap_id (by omega) (by omega)
  rw [List.all_eq_true]
  constructor
  · intro h
    have h' : ∀ i (hi : i < l.length), (0 ≤ l[i].f0 ∧ l[i].f0 ≤ a - 1) ∧ l[i].f0 ∉ l2 ∧ (0 ≤ l[i].f1 ∧ l[i].f1 ≤ b - 1) ∧ (0 < i → (rd_T74 l ((i : Int) - 1)).f0 < l[i].f0) := fun i hi => by
      have := h i (by simpa using hi)
      simp only [spec_SpaceOK.k3, Bool.and_eq_true, Bool.or_eq_true, Bool.not_eq_true', decide_eq_false_iff_not, e, e2, spec_SpaceOK.win_iff, rdH l i hi, List.mem_append, not_or] at this
      exact ⟨this.1, this.2.1.1, this.2.2.1, fun h0 => by rcases this.2.2.2 with h1 | h1 <;> omega⟩
    refine ⟨fun x hx => ?_, up_steps _ fun i hi => ?_, fun x hx => ?_, fun x hx => ?_⟩
    · obtain ⟨y, hy, rfl⟩ := List.mem_map.1 hx
      obtain ⟨i, hi, rfl⟩ := List.getElem_of_mem hy
      exact (h' i hi).1
    · rw [List.length_map] at hi
      have := (h' (i + 1) hi).2.2.2 (by omega)
      rw [show (((i + 1 : Nat) : Int) - 1) = (i : Int) by omega, rdH l i (by omega)] at this
      simpa using this
    · obtain ⟨y, hy, rfl⟩ := List.mem_map.1 hx
      obtain ⟨i, hi, rfl⟩ := List.getElem_of_mem hy
      exact (h' i hi).2.1
    · obtain ⟨i, hi, rfl⟩ := List.getElem_of_mem hx
      exact (h' i hi).2.2.1
  · rintro ⟨h1, h2, h3, h4⟩ i hi
    have hi' : i < l.length := by simpa using hi
    rw [List.pairwise_iff_getElem] at h2
    have h2' : ∀ j (hj : j < i), (l[j]'(by omega)).f0 < l[i].f0 := fun j hj => by
      have := h2 j i (by rw [List.length_map]; omega) (by rw [List.length_map]; omega) hj
      simpa using this
    have hm : l[i].f0 ∈ l.map (·.f0) := List.mem_map.2 ⟨_, List.getElem_mem hi', rfl⟩
    simp only [spec_SpaceOK.k3, Bool.and_eq_true, Bool.or_eq_true, Bool.not_eq_true', decide_eq_false_iff_not, e, e2, spec_SpaceOK.win_iff, rdH l i hi', List.mem_append, not_or]
    refine ⟨h1 _ hm, ⟨h3 _ hm, fun hx => ?_⟩, h4 _ (List.getElem_mem hi'), ?_⟩
    · obtain ⟨y, hy, hyx⟩ := List.mem_map.1 hx
      obtain ⟨j, hj, rfl⟩ := List.getElem_of_mem hy
      rw [List.getElem_take] at hyx
      have hj' : j < i := by simp at hj; omega
      have := h2' j hj'
      omega
    · by_cases h0 : 0 < i
      · right
        rw [show ((i : Int) - 1) = ((i - 1 : Nat) : Int) by omega, rdH l (i - 1) (by omega)]
        have := h2' (i - 1) (by omega)
        omega
      · left
        exact h0
theorem up_nodup (l : List Int) (h : l.Pairwise (· < ·)) : l.Nodup := by
  unfold List.Nodup
  refine h.imp ?_
  intro x y hxy e
  omega
theorem spec_ok (a b : Int) (l2 : List Int) (l3 : List H) (l4 : List Int) (h2 : l2.length ≤ 1048576) (h3 : l3.length ≤ 1048576) (h4 : l4.length ≤ 1048576) :
    ∃ t, spec_SpaceOK.f a b l2 l3 l4 = some t ∧ (t = true ↔ Good a b l2 l3 l4) := by
  unfold spec_SpaceOK.f
  refine ⟨_, rfl, ?_⟩
  have es : wrap64 ((l2.length : Int) + (l3.length : Int)) = (l2.length : Int) + (l3.length : Int) := wrap_id (by omega) (by omega)
  have hp : (List.range l4.length).all (spec_SpaceOK.k4 b l4) = true ↔ ∀ x ∈ l4, 0 ≤ x ∧ x ≤ b := by
    rw [List.all_eq_true]
    constructor
    · intro h x hx
      obtain ⟨i, hi, rfl⟩ := List.getElem_of_mem hx
      have := h i (by simpa using hi)
      rwa [spec_SpaceOK.k4, spec_SpaceOK.win_iff, rdI l4 i hi] at this
    · intro h i hi
      have hi' : i < l4.length := by simpa using hi
      rw [spec_SpaceOK.k4, spec_SpaceOK.win_iff, rdI l4 i hi']
      exact h _ (List.getElem_mem hi')
  rw [Bool.and_eq_true, Bool.and_eq_true, Bool.and_eq_true, Bool.and_eq_true, Bool.and_eq_true, Bool.and_eq_true, spec_SpaceOK.win_iff, spec_SpaceOK.win_iff, es, hp]
  simp only [Bool.not_eq_true', decide_eq_false_iff_not]
  constructor
  · rintro ⟨⟨c1, c2⟩, ⟨c3, c4⟩, c5, c6, c7, c8, c9⟩
    obtain ⟨d1, d2⟩ := (now_iff a c1 c2 l2).1 c7
    obtain ⟨d3, d4, d5, d6⟩ := (held_iff a b c1 c2 c3 c4 l2 l3).1 c8
    exact ⟨c1, c2, c3, c4, d1, d2, d3, d4, d5, d6, by omega, c9⟩
  · intro g
    refine ⟨⟨g.a0, g.a1⟩, ⟨g.b0, g.b1⟩, ?_, by have := g.pinsFew; omega, (now_iff a g.a0 g.a1 l2).2 ⟨g.now, g.nowUp⟩, (held_iff a b g.a0 g.a1 g.b0 g.b1 l2 l3).2 ⟨g.held, g.heldUp, g.apart, g.since⟩, g.pins⟩
    have hn : (l2 ++ l3.map (·.f0)).Nodup := by
      rw [List.nodup_append]
      refine ⟨up_nodup _ g.nowUp, up_nodup _ g.heldUp, fun x hx y hy e => ?_⟩
      subst e
      exact g.apart x hy hx
    have hf := few a.toNat _ hn (fun x hx => by
      have := g.a0
      rcases List.mem_append.1 hx with h | h
      · have := g.now x h
        omega
      · have := g.held x h
        omega)
    rw [List.length_append, List.length_map] at hf
    have := g.a0
    omega
theorem ok_both (a b : Int) (l2 : List Int) (l3 : List H) (l4 : List Int) (h2 : l2.length ≤ 1048576) (h3 : l3.length ≤ 1048576) (h4 : l4.length ≤ 1048576) :
    ∃ t, spec_SpaceOK.f a b l2 l3 l4 = some t ∧ impl_SpaceOK.f a b l2 l3 l4 = some t ∧ (t = true ↔ Good a b l2 l3 l4) := by
  obtain ⟨t, ht, hg⟩ := spec_ok a b l2 l3 l4 h2 h3 h4
  obtain ⟨u, hu, hg'⟩ := impl_ok a b l2 l3 l4 h3
  have : t = u := Bool.eq_iff_iff.2 (hg.trans hg'.symm)
  exact ⟨t, ht, by rw [hu, this], hg⟩
end Go.Proofs.Ytcnkacbgcmnokaa.SpaA
/- Spaces marked; plain lemmas. -/
namespace Go.Proofs.Ytcnkacbgcmnokaa.MarkSfA
open Go Go.RowKit Go.Proofs.Ytcnkacbgcmnokaa.XA Go.Proofs.YtcnkacbgcmnokaaW.PrintWords Go.Proofs.YtcnkacbgcmnokaaW.PrintLast Go.Proofs.YtcnkacbgcmnokaaW.PrintMore Go.Proofs.Ytcnkacbgcmnokaa.Aid Go.Proofs.Ytcnkacbgcmnokaa.Loops Go.Proofs.Ytcnkacbgcmnokaa.MarkE Go.Proofs.Ytcnkacbgcmnokaa.MarkIA Go.Proofs.Ytcnkacbgcmnokaa.SpaA
set_option linter.unusedVariables false
set_option linter.unusedSimpArgs false

def mkHeld (a : Int) : H := ⟨a, a + 1⟩
theorem helds_mark (xs : List H) (s : Int) (h0 : 0 ≤ s) (hc : s + 2 * xs.length ≤ 536870912) : Ev (fun k => laws_markHeldS.f k xs s) (s + 2 * xs.length, stone mkHeld s 2 xs.length) := by
  unfold laws_markHeldS.f
  refine markE (fun k xs a i => laws_markHeldS.l0 k xs a i) xs.length s 2 mkHeld h0 (by omega) hc (fun i ys a r hy hi ha hb hr => ?_) (fun ys a hy => ?_) xs rfl
  · have g : ∀ (y : H), rd_T74 (ys.set i y) (i : Int) = y := fun y => by
      show (ys.set i y).getD (i : Int).toNat z74 = y
      rw [Int.toNat_natCast]
      exact set_get ys i y z74 (by omega)
    have e1 : wrap64 (a + 1) = a + 1 := wrap_id (by omega) (by omega)
    have e2 : wrap64 (a + 1 + 1) = a + 2 := by rw [wrap_id (by omega) (by omega)]; omega
    refine Ev.step (fun k => ?_) hr
    simp only [laws_markHeldS.l0, Option.bind_some]
    rw [if_pos (by omega), if_pos (by omega)]
    simp only [Int.toNat_natCast, List.set_set, g, e1, e2]
    rw [next_ (n := xs.length) hi (by omega)]
    rfl
  · exact Ev.step (f := fun _ => some (a, ys)) (fun k => by simp only [laws_markHeldS.l0]; rw [if_neg (by omega)]) (Ev.now _)
theorem space_mark (a b : Int) (l2 : List Int) (l3 : List H) (l4 : List Int) (s : Int) (h0 : 0 ≤ s) (hs : s ≤ 1048576) (h2 : l2.length ≤ 1048576) (h3 : l3.length ≤ 1048576) (h4 : l4.length ≤ 1048576) :
    Ev (fun k => laws_markSpace.f k a b l2 l3 l4 s) (s + l2.length + 2 * l3.length + l4.length, stone (fun a => a) s 1 l2.length, stone mkHeld (s + l2.length) 2 l3.length, stone (fun a => a) (s + l2.length + 2 * l3.length) 1 l4.length) := by
  unfold laws_markSpace.f
  have e1 := ints_mark l2 s h0 (by omega)
  have e2 := helds_mark l3 (s + l2.length) (by omega) (by omega)
  have e3 := ints_mark l4 (s + l2.length + 2 * l3.length) (by omega) (by omega)
  rw [show s + 1 * (l2.length : Int) = s + l2.length by omega] at e1
  rw [show s + (l2.length : Int) + 2 * (l3.length : Int) + 1 * (l4.length : Int) = s + l2.length + 2 * l3.length + l4.length by omega] at e3
  exact Ev.bind e1 (Ev.bind e2 (Ev.bind e3 (Ev.now _)))
end Go.Proofs.Ytcnkacbgcmnokaa.MarkSfA
/- Spaces and replies marked and read back; plain lemmas. -/
namespace Go.Proofs.Ytcnkacbgcmnokaa.MarkShA
open Go Go.RowKit Go.Proofs.Ytcnkacbgcmnokaa.XA Go.Proofs.YtcnkacbgcmnokaaW.PrintWords Go.Proofs.YtcnkacbgcmnokaaW.PrintLast Go.Proofs.YtcnkacbgcmnokaaW.PrintMore Go.Proofs.Ytcnkacbgcmnokaa.Aid Go.Proofs.Ytcnkacbgcmnokaa.Loops Go.Proofs.Ytcnkacbgcmnokaa.MarkE Go.Proofs.Ytcnkacbgcmnokaa.MarkIA Go.Proofs.Ytcnkacbgcmnokaa.SpaA Go.Proofs.Ytcnkacbgcmnokaa.MarkSfA
set_option linter.unusedVariables false
set_option linter.unusedSimpArgs false
theorem helds_held (n : Nat) (s : Int) (h0 : 0 ≤ s) (hc : s + 2 * n ≤ 536870912) : Ev (fun k => laws_heldHeldS.f k (stone mkHeld s 2 n) s) (s + 2 * n) := by
  have hl : (stone mkHeld s 2 n).length = n := by simp [stone]
  unfold laws_heldHeldS.f
  refine heldE (fun k a i => laws_heldHeldS.l0 k (stone mkHeld s 2 n) a i) n s 2 h0 (by omega) hc (fun i r hi hb ha hr => ?_) (fun a => ?_)
  · have g : rd_T74 (stone mkHeld s 2 n) (i : Int) = mkHeld (s + 2 * i) := by
      show (stone mkHeld s 2 n).getD (i : Int).toNat z74 = _
      rw [Int.toNat_natCast]
      exact stone_get mkHeld s 2 n z74 i hi
    have e1 : wrap64 (s + 2 * (i : Int) + 1) = s + 2 * (i : Int) + 1 := wrap_id (by omega) (by omega)
    have e2 : wrap64 (s + 2 * (i : Int) + 1 + 1) = s + 2 * (i : Int) + 2 := by rw [wrap_id (by omega) (by omega)]; omega
    refine Ev.step (fun k => ?_) hr
    simp only [laws_heldHeldS.l0]
    rw [hl, if_pos (by omega), if_pos (by omega), g]
    simp only [mkHeld, e1, e2]
    rw [if_pos trivial, if_pos trivial, next_ (n := n) hi (by omega)]
  · exact Ev.step (f := fun _ => some a) (fun k => by simp only [laws_heldHeldS.l0]; rw [hl, if_neg (by omega)]) (Ev.now _)
theorem space_held (a b : Int) (n2 n3 n4 : Nat) (s : Int) (h0 : 0 ≤ s) (hs : s ≤ 1048576) (h2 : n2 ≤ 1048576) (h3 : n3 ≤ 1048576) (h4 : n4 ≤ 1048576) :
    Ev (fun k => laws_heldSpace.f k a b (stone (fun a => a) s 1 n2) (stone mkHeld (s + n2) 2 n3) (stone (fun a => a) (s + n2 + 2 * n3) 1 n4) s) (s + n2 + 2 * n3 + n4) := by
  unfold laws_heldSpace.f
  have e1 := ints_held n2 s h0 (by omega)
  have e2 := helds_held n3 (s + n2) (by omega) (by omega)
  have e3 := ints_held n4 (s + n2 + 2 * n3) (by omega) (by omega)
  rw [show s + 1 * (n2 : Int) = s + n2 by omega] at e1
  rw [show s + (n2 : Int) + 2 * (n3 : Int) + 1 * (n4 : Int) = s + n2 + 2 * n3 + n4 by omega] at e3
  exact Ev.bind e1 (Ev.congr (fun k => if_neg (by omega)) (Ev.bind e2 (Ev.congr (fun k => if_neg (by omega)) (Ev.bind e3 (Ev.congr (fun k => if_neg (by omega)) (Ev.now _))))))
theorem reply_mark (c : Int) (l : List Int) (s : Int) (h0 : 0 ≤ s) (hs : s + l.length ≤ 536870912) : Ev (fun k => laws_markSpaceReply.f k c l s) (s + l.length, stone (fun a => a) s 1 l.length) := by
  unfold laws_markSpaceReply.f
  have e1 := ints_mark l s h0 (by omega)
  rw [show s + 1 * (l.length : Int) = s + l.length by omega] at e1
  exact Ev.bind e1 (Ev.now _)
theorem reply_held (c : Int) (n : Nat) (s : Int) (h0 : 0 ≤ s) (hs : s + n ≤ 536870912) : Ev (fun k => laws_heldSpaceReply.f k c (stone (fun a => a) s 1 n) s) (s + n) := by
  unfold laws_heldSpaceReply.f
  have e1 := ints_held n s h0 (by omega)
  rw [show s + 1 * (n : Int) = s + n by omega] at e1
  exact Ev.bind e1 (Ev.congr (fun k => if_neg (by omega)) (Ev.now _))
theorem reply_same (c : Int) (l : List Int) (hl : l.length ≤ 1048576) : Ev (fun k => laws_eqSpaceReply.f k c l c l) true := by
  unfold laws_eqSpaceReply.f
  exact Ev.congr (fun k => if_pos rfl) (Ev.bind (SpaA.ints_same l hl) (Ev.congr (fun k => if_pos rfl) (Ev.now _)))
end Go.Proofs.Ytcnkacbgcmnokaa.MarkShA
/- The free pages of a right space on both sides; plain lemmas. -/
namespace Go.Proofs.Ytcnkacbgcmnokaa.FreeA
open Go Go.RowKit Go.Proofs.Ytcnkacbgcmnokaa.XA Go.Proofs.YtcnkacbgcmnokaaW.PrintWords Go.Proofs.YtcnkacbgcmnokaaW.PrintLast Go.Proofs.YtcnkacbgcmnokaaW.PrintMore Go.Proofs.Ytcnkacbgcmnokaa.Aid Go.Proofs.Ytcnkacbgcmnokaa.Loops Go.Proofs.Ytcnkacbgcmnokaa.SpaA
set_option linter.unusedVariables false
set_option linter.unusedSimpArgs false

def pages (a : Int) : List Int := (List.range a.toNat).map fun (i : Nat) => (i : Int)
def free (a : Int) (l2 l4 : List Int) : List Int := (pages a).filter fun p => !decide (p ∈ l2) && !decide (p ∈ l4)
theorem has_spec (l : List Int) (x : Int) (hl : l.length ≤ 1048576) : Ev (fun k => spec_l03Has.f k l x) (decide (x ∈ l)) := by
  unfold spec_l03Has.f
  have key : ∀ (d i : Nat), i + d = l.length → Ev (fun k => spec_l03Has.l0 k l x (i : Int)) (decide (x ∈ l.drop i)) := by
    intro d
    induction d with
    | zero =>
      intro i hi
      rw [List.drop_eq_nil_of_le (by omega)]
      exact Ev.step (f := fun _ => some _) (fun k => by simp only [spec_l03Has.l0]; rw [if_neg (by omega)]; simp) (Ev.now _)
    | succ d ih =>
      intro i hi
      have hlt : i < l.length := by omega
      rw [List.drop_eq_getElem_cons hlt]
      by_cases e : l[i] = x
      · have : decide (x ∈ l[i] :: l.drop (i + 1)) = true := decide_eq_true (by rw [e]; exact List.mem_cons_self)
        rw [this]
        exact Ev.step (f := fun _ => some _) (fun k => by simp only [spec_l03Has.l0]; rw [if_pos (by omega), if_pos (by omega), rdI l i hlt, if_pos e]) (Ev.now _)
      · have : decide (x ∈ l[i] :: l.drop (i + 1)) = decide (x ∈ l.drop (i + 1)) := decide_eq_decide.mpr (by rw [List.mem_cons]; exact or_iff_right (fun h => e h.symm))
        rw [this]
        refine Ev.step (fun k => ?_) (ih (i + 1) (by omega))
        simp only [spec_l03Has.l0]
        rw [if_pos (by omega), if_pos (by omega), rdI l i hlt, if_neg e, next_ (n := l.length) hlt (by omega)]
  exact key l.length 0 (by omega)
theorem has_impl (l : List Int) (x : Int) (hl : l.length ≤ 1048576) : Ev (fun k => slices_Contains_int_int.f k l x) (decide (x ∈ l)) :=
  Ev.of (slices_Contains_int_int.mono l x) (impl_SpaceOK.has_some l x (by omega))
theorem held_impl (a b : Int) (l2 l4 : List Int) (l : List H) (hl : l.length ≤ 1048576) : Ev (fun k => impl_Space_heldPages.f k a b l2 l l4) (l.map (·.f0)) :=
  Ev.of (impl_Space_heldPages.mono a b l2 l l4) (impl_SpaceOK.held_some a b l2 l4 l (by omega))
theorem range_snoc (p : Int) (h : 0 ≤ p) : pages (p + 1) = pages p ++ [p] := by
  unfold pages
  rw [show (p + 1).toNat = p.toNat + 1 by omega, List.range_succ, List.map_append]
  simp
  omega
theorem free_snoc (p : Int) (h : 0 ≤ p) (l2 l4 : List Int) : free (p + 1) l2 l4 = free p l2 l4 ++ (if (!decide (p ∈ l2) && !decide (p ∈ l4)) = true then [p] else []) := by
  unfold free
  rw [range_snoc p h, List.filter_append, List.filter_cons, List.filter_nil]
theorem free_len (p : Int) (h : 0 ≤ p) (l2 l4 : List Int) : (free p l2 l4).length ≤ p.toNat := by
  unfold free
  refine Nat.le_trans (List.length_filter_le _ _) ?_
  simp [pages]
theorem impl_free (a b : Int) (l2 l4 : List Int) (l3 : List H) (h0 : 0 ≤ a) (h1 : a ≤ 64) (h2 : l2.length ≤ 1048576) (h3 : l3.length ≤ 1048576) : Ev (fun k => impl_Space_free.f k a b l2 l3 l4) (free a l2 (l3.map (·.f0))) := by
  unfold impl_Space_free.f
  refine Ev.bind (held_impl a b l2 l4 l3 h3) ?_
  have h4 : (l3.map (·.f0)).length ≤ 1048576 := by rw [List.length_map]; exact h3
  generalize l3.map (·.f0) = lh at h4
  have key : ∀ (d : Nat) (p : Int), p + d = a → 0 ≤ p → Ev (fun k => impl_Space_free.l0 k (free p l2 lh) lh a p a b l2 l3 l4) (free a l2 lh) := by
    intro d
    induction d with
    | zero =>
      intro p hp hp0
      obtain rfl : p = a := by omega
      exact Ev.step (f := fun _ => some _) (fun k => by simp only [impl_Space_free.l0]; rw [if_neg (by omega)]) (Ev.now _)
    | succ d ih =>
      intro p hp hp0
      have ih' := ih (p + 1) (by omega) (by omega)
      rw [free_snoc p hp0] at ih'
      have hw : wrap64 (p + 1) = p + 1 := wrap_id (by omega) (by omega)
      have hl := free_len p hp0 l2 lh
      refine Ev.step (f := fun k => (slices_Contains_int_int.f k l2 p).bind fun t193 => (if t193 = true then (impl_Space_free.l0 k (free p l2 lh) lh a (wrap64 (p + 1)) a b l2 l3 l4) else ((slices_Contains_int_int.f k lh p).bind fun t194 => (if t194 = true then (impl_Space_free.l0 k (free p l2 lh) lh a (wrap64 (p + 1)) a b l2 l3 l4) else (if (free p l2 lh).length < 17592186044416 then (impl_Space_free.l0 k (free p l2 lh ++ [p]) lh a (wrap64 (p + 1)) a b l2 l3 l4) else (none)))))) (fun k => by simp only [impl_Space_free.l0]; rw [if_pos (by omega)]) ?_
      refine Ev.bind (has_impl l2 p h2) ?_
      rw [hw]
      by_cases e : p ∈ l2
      · simp only [e, decide_true, Bool.not_true, Bool.false_and, Bool.false_eq_true, if_false, List.append_nil] at ih'
        exact Ev.congr (fun k => if_pos (decide_eq_true e)) ih'
      · refine Ev.congr (fun k => if_neg (by simpa using e)) (Ev.bind (has_impl lh p h4) ?_)
        by_cases e' : p ∈ lh
        · simp only [e, e', decide_true, decide_false, Bool.not_true, Bool.not_false, Bool.and_false, Bool.false_eq_true, if_false, List.append_nil] at ih'
          exact Ev.congr (fun k => if_pos (decide_eq_true e')) ih'
        · simp only [e, e', decide_false, Bool.not_false, Bool.and_self, if_true] at ih'
          exact Ev.congr (fun k => (if_neg (by simpa using e')).trans (if_pos (by omega))) ih'
  exact key a.toNat 0 (by omega) (by omega)
theorem spec_free (a b : Int) (l2 l4 : List Int) (l3 : List H) (h0 : 0 ≤ a) (h1 : a ≤ 64) (h2 : l2.length ≤ 1048576) (h3 : l3.length ≤ 1048576) : Ev (fun k => spec_l04Free.f k a b l2 l3 l4) (free a l2 (l3.map (·.f0))) := by
  unfold spec_l04Free.f
  have inner : ∀ (xs : List Int) (p : Int) (r : List Int) (d i : Nat) (u : Bool), i + d = l3.length →
      Ev (fun k => if (u || ((l3.drop i).any fun x => x.f0 == p)) = true then spec_l04Free.l0 k xs (wrap64 (p + 1)) a b l2 l3 l4 else (if xs.length < 17592186044416 then spec_l04Free.l0 k (xs ++ [p]) (wrap64 (p + 1)) a b l2 l3 l4 else none)) r →
      Ev (fun k => spec_l04Free.l1 k xs p u (i : Int) a b l2 l3 l4) r := by
    intro xs p r d
    induction d with
    | zero =>
      intro i u hi hr
      rw [List.drop_eq_nil_of_le (by omega)] at hr
      simp only [List.any_nil, Bool.or_false] at hr
      refine Ev.step (fun k => ?_) hr
      simp only [spec_l04Free.l1]
      rw [if_neg (by omega)]
    | succ d ih =>
      intro i u hi hr
      have hlt : i < l3.length := by omega
      rw [List.drop_eq_getElem_cons hlt, List.any_cons] at hr
      cases u with
      | true =>
        refine Ev.step (fun k => ?_) (ih (i + 1) true (by omega) (by simpa using hr))
        simp only [spec_l04Free.l1]
        rw [if_pos (by omega), if_pos trivial, next_ (n := l3.length) hlt (by omega)]
      | false =>
        refine Ev.step (fun k => ?_) (ih (i + 1) (l3[i].f0 == p) (by omega) (by simpa using hr))
        simp only [spec_l04Free.l1]
        rw [if_pos (by omega), if_neg (by simp), if_pos (by omega), rdH l3 i hlt, next_ (n := l3.length) hlt (by omega)]
  have hmem : ∀ p : Int, (l3.any fun x => x.f0 == p) = decide (p ∈ l3.map (·.f0)) := fun p => by
    rw [Bool.eq_iff_iff, List.any_eq_true, decide_eq_true_eq, List.mem_map]
    simp
  have key : ∀ (d : Nat) (p : Int), p + d = a → 0 ≤ p → Ev (fun k => spec_l04Free.l0 k (free p l2 (l3.map (·.f0))) p a b l2 l3 l4) (free a l2 (l3.map (·.f0))) := by
    intro d
    induction d with
    | zero =>
      intro p hp hp0
      obtain rfl : p = a := by omega
      exact Ev.step (f := fun _ => some _) (fun k => by simp only [spec_l04Free.l0]; rw [if_neg (by omega)]) (Ev.now _)
    | succ d ih =>
      intro p hp hp0
      have ih' := ih (p + 1) (by omega) (by omega)
      rw [free_snoc p hp0] at ih'
      have hw : wrap64 (p + 1) = p + 1 := wrap_id (by omega) (by omega)
      have hl := free_len p hp0 l2 (l3.map (·.f0))
      refine Ev.step (f := fun k => (spec_l03Has.f k l2 p).bind fun t => spec_l04Free.l1 k (free p l2 (l3.map (·.f0))) p t 0 a b l2 l3 l4) (fun k => by simp only [spec_l04Free.l0]; rw [if_pos (by omega)]) ?_
      refine Ev.bind (has_spec l2 p h2) (inner _ p _ l3.length 0 _ (by omega) ?_)
      rw [List.drop_zero, hmem p, hw]
      by_cases e : p ∈ l2
      · simp only [e, decide_true, Bool.not_true, Bool.false_and, Bool.false_eq_true, if_false, List.append_nil] at ih'
        exact Ev.congr (fun k => if_pos (by simp [e])) ih'
      · by_cases e' : p ∈ l3.map (·.f0)
        · simp only [e, e', decide_true, decide_false, Bool.not_true, Bool.not_false, Bool.and_false, Bool.false_eq_true, if_false, List.append_nil] at ih'
          exact Ev.congr (fun k => if_pos (by rw [decide_eq_true e']; simp)) ih'
        · simp only [e, e', decide_false, Bool.not_false, Bool.and_self, if_true] at ih'
          exact Ev.congr (fun k => (if_neg (by rw [decide_eq_false e, decide_eq_false e']; simp)).trans (if_pos (by omega))) ih'
  exact key a.toNat 0 (by omega) (by omega)
end Go.Proofs.Ytcnkacbgcmnokaa.FreeA
/- Both sides' step on a right space comes to the same, and leaves a right space; plain lemmas. -/
namespace Go.Proofs.Ytcnkacbgcmnokaa.SameA
open Go Go.RowKit Go.Proofs.YtcnkacbgcmnokaaW.PrintWords Go.Proofs.YtcnkacbgcmnokaaW.PrintLast Go.Proofs.YtcnkacbgcmnokaaW.PrintMore Go.Proofs.Ytcnkacbgcmnokaa.XA Go.Proofs.Ytcnkacbgcmnokaa.Aid Go.Proofs.Ytcnkacbgcmnokaa.Loops Go.Proofs.Ytcnkacbgcmnokaa.SpaA Go.Proofs.Ytcnkacbgcmnokaa.FreeA
open Go.Proofs.Ytcnkacbgcmnokaa.XA.Act (pg Out)
open Go.Proofs.Ytcnkacbgcmnokaa.XA.Scom (mg)
open Go.Proofs.Ytcnkacbgcmnokaa.XA.Srel (kp)
set_option linter.unusedVariables false
set_option linter.unusedSimpArgs false
/-- By their pages, one behind the other. -/
abbrev Up (l : List S74) : Prop := l.Pairwise fun x y => x.f0 < y.f0
theorem uniq : ∀ (l m : List S74), Up l → Up m → (∀ x, x ∈ l ↔ x ∈ m) → l = m
  | [], [], _, _, _ => rfl
  | [], b :: m, _, _, h => absurd ((h b).2 List.mem_cons_self) (by simp)
  | a :: l, [], _, _, h => absurd ((h a).1 List.mem_cons_self) (by simp)
  | a :: l, b :: m, h1, h2, h => by
    obtain ⟨h1a, h1l⟩ := List.pairwise_cons.1 h1
    obtain ⟨h2b, h2m⟩ := List.pairwise_cons.1 h2
    have e : a = b := by
      rcases List.mem_cons.1 ((h a).1 List.mem_cons_self) with e | ha
      · exact e
      rcases List.mem_cons.1 ((h b).2 List.mem_cons_self) with e | hb
      · exact e.symm
      have := h1a b hb
      have := h2b a ha
      omega
    subst e
    rw [uniq l m h1l h2m (fun x => ⟨fun hx => ?_, fun hx => ?_⟩)]
    · rcases List.mem_cons.1 ((h x).1 (List.mem_cons_of_mem _ hx)) with e | hm
      · subst e
        exact absurd (h1a x hx) (by omega)
      · exact hm
    · rcases List.mem_cons.1 ((h x).2 (List.mem_cons_of_mem _ hx)) with e | hm
      · subst e
        exact absurd (h2b x hx) (by omega)
      · exact hm
theorem mg_mem (E : Int) (x : S74) : ∀ (d : Nat) (hs : List S74) (xs : List Int), hs.length + xs.length ≤ d → (x ∈ mg E d hs xs ↔ x ∈ hs ∨ x ∈ xs.map (pg E))
  | 0, hs, xs, h => by
    obtain rfl : hs = [] := List.eq_nil_of_length_eq_zero (by omega)
    obtain rfl : xs = [] := List.eq_nil_of_length_eq_zero (by omega)
    simp [mg]
  | d + 1, [], [], h => by simp [mg]
  | d + 1, [], y :: ys, h => by
    simp only [mg, List.mem_cons, mg_mem E x d [] ys (by simp at h ⊢; omega), List.map_cons]
    simp
  | d + 1, g :: gs, [], h => by
    simp only [mg, List.mem_cons, mg_mem E x d gs [] (by simp at h ⊢; omega), List.map_nil]
    simp
  | d + 1, g :: gs, y :: ys, h => by
    simp only [mg]
    by_cases c : y < g.f0
    · rw [if_pos c, List.mem_cons, mg_mem E x d (g :: gs) ys (by simp at h ⊢; omega), List.map_cons, List.mem_cons (b := pg E y)]
      constructor
      · rintro (h | h | h)
        · exact .inr (.inl h)
        · exact .inl h
        · exact .inr (.inr h)
      · rintro (h | h | h)
        · exact .inr (.inl h)
        · exact .inl h
        · exact .inr (.inr h)
    · rw [if_neg c, List.mem_cons, mg_mem E x d gs (y :: ys) (by simp at h ⊢; omega), List.mem_cons (b := g), or_assoc]
theorem mg_up (E : Int) : ∀ (d : Nat) (hs : List S74) (xs : List Int), hs.length + xs.length ≤ d → Up hs → xs.Pairwise (· < ·) → (∀ x ∈ hs, x.f0 ∉ xs) → Up (mg E d hs xs)
  | 0, hs, xs, _, _, _, _ => List.Pairwise.nil
  | d + 1, [], [], _, _, _, _ => List.Pairwise.nil
  | d + 1, [], y :: ys, h, h1, h2, h3 => by
    obtain ⟨h2y, h2s⟩ := List.pairwise_cons.1 h2
    simp only [mg]
    refine List.pairwise_cons.2 ⟨fun x hx => ?_, mg_up E d [] ys (by simp at h ⊢; omega) h1 h2s (fun x hx => by simp at hx)⟩
    rcases (mg_mem E x d [] ys (by simp at h ⊢; omega)).1 hx with hm | hm
    · simp at hm
    · obtain ⟨z, hz, rfl⟩ := List.mem_map.1 hm
      exact h2y z hz
  | d + 1, g :: gs, [], h, h1, h2, h3 => by
    obtain ⟨h1g, h1s⟩ := List.pairwise_cons.1 h1
    simp only [mg]
    refine List.pairwise_cons.2 ⟨fun x hx => ?_, mg_up E d gs [] (by simp at h ⊢; omega) h1s h2 (fun x hx => by simp)⟩
    rcases (mg_mem E x d gs [] (by simp at h ⊢; omega)).1 hx with hm | hm
    · exact h1g x hm
    · simp at hm
  | d + 1, g :: gs, y :: ys, h, h1, h2, h3 => by
    obtain ⟨h1g, h1s⟩ := List.pairwise_cons.1 h1
    obtain ⟨h2y, h2s⟩ := List.pairwise_cons.1 h2
    simp only [mg]
    by_cases c : y < g.f0
    · rw [if_pos c]
      refine List.pairwise_cons.2 ⟨fun x hx => ?_, mg_up E d (g :: gs) ys (by simp at h ⊢; omega) h1 h2s (fun x hx hm => h3 x hx (List.mem_cons_of_mem _ hm))⟩
      rcases (mg_mem E x d (g :: gs) ys (by simp at h ⊢; omega)).1 hx with hm | hm
      · rcases List.mem_cons.1 hm with e | hm
        · subst e
          exact c
        · exact Int.lt_trans c (h1g x hm)
      · obtain ⟨z, hz, rfl⟩ := List.mem_map.1 hm
        exact h2y z hz
    · rw [if_neg c]
      have c' : g.f0 < y := by
        have : g.f0 ≠ y := fun e => h3 g List.mem_cons_self (e ▸ List.mem_cons_self)
        omega
      refine List.pairwise_cons.2 ⟨fun x hx => ?_, mg_up E d gs (y :: ys) (by simp at h ⊢; omega) h1s h2 (fun x hx => h3 x (List.mem_cons_of_mem _ hx))⟩
      rcases (mg_mem E x d gs (y :: ys) (by simp at h ⊢; omega)).1 hx with hm | hm
      · exact h1g x hm
      · obtain ⟨z, hz, rfl⟩ := List.mem_map.1 hm
        rcases List.mem_cons.1 hz with e | hz
        · subst e
          exact c'
        · exact Int.lt_trans c' (h2y z hz)
theorem sorted_mem (l : List S74) (x : S74) : x ∈ Sorth.sorted l ↔ x ∈ l := by
  unfold Sorth.sorted
  exact (List.mergeSort_perm l _).mem_iff
theorem sorted_up (l : List S74) (h : (l.map (·.f0)).Nodup) : Up (Sorth.sorted l) := by
  have hp : (Sorth.sorted l).Perm l := List.mergeSort_perm l _
  have h1 : (Sorth.sorted l).Pairwise fun x y => (!decide (y.f0 < x.f0)) = true :=
    List.pairwise_mergeSort (fun a b c h1 h2 => by simp only [Bool.not_eq_true', decide_eq_false_iff_not] at *; omega) (fun a b => by simp only [Bool.or_eq_true, Bool.not_eq_true', decide_eq_false_iff_not]; omega) l
  have h2 : ((Sorth.sorted l).map (·.f0)).Nodup := (hp.map (·.f0)).nodup_iff.2 h
  rw [List.Nodup, List.pairwise_map] at h2
  refine (h1.and h2).imp ?_
  rintro x y ⟨h1, h2⟩
  simp only [Bool.not_eq_true', decide_eq_false_iff_not] at h1
  omega
theorem inj_of : ∀ (l : List S74), (l.map (·.f0)).Nodup → ∀ x ∈ l, ∀ y ∈ l, x.f0 = y.f0 → x = y
  | [], _, x, hx, _, _, _ => by simp at hx
  | a :: l, h, x, hx, y, hy, e => by
    rw [List.map_cons, List.nodup_cons] at h
    rcases List.mem_cons.1 hx with rfl | hx'
    · rcases List.mem_cons.1 hy with rfl | hy'
      · rfl
      · exact absurd (List.mem_map.2 ⟨y, hy', e.symm⟩) h.1
    · rcases List.mem_cons.1 hy with rfl | hy'
      · exact absurd (List.mem_map.2 ⟨x, hx', e⟩) h.1
      · exact inj_of l h.2 x hx' y hy' e
section
variable {T E : Int} {now : List Int} {held : List S74} {pins : List Int}
theorem Good_up (g : SpaA.Good T E now held pins) : Up held := by
  have := g.heldUp
  rw [List.pairwise_map] at this
  exact this
theorem Good_apart (g : SpaA.Good T E now held pins) : ∀ x ∈ held, x.f0 ∉ now := fun x hx => g.apart _ (List.mem_map.2 ⟨x, hx, rfl⟩)
theorem all_nodup (g : SpaA.Good T E now held pins) : ((held ++ now.map (pg E)).map (·.f0)).Nodup := by
  have e : (now.map (pg E)).map (·.f0) = now := by rw [List.map_map]; exact (List.map_congr_left (fun _ _ => rfl)).trans (List.map_id now)
  rw [List.map_append, e, List.nodup_append]
  refine ⟨up_nodup _ g.heldUp, up_nodup _ g.nowUp, fun x hx y hy e => ?_⟩
  subst e
  exact g.apart x hx hy
theorem merged (g : SpaA.Good T E now held pins) : Sorth.sorted (held ++ now.map (pg E)) = mg E (held.length + now.length) held now := by
  refine uniq _ _ (sorted_up _ (all_nodup g)) (mg_up E _ _ _ (Nat.le_refl _) (Good_up g) g.nowUp (Good_apart g)) (fun x => ?_)
  rw [sorted_mem, mg_mem E x _ _ _ (Nat.le_refl _), List.mem_append]
theorem left_is (E : Int) (l : List S74) (pins : List Int) : Rels.left E l pins = l.filter (kp E pins) := by
  unfold Rels.left
  congr 1
  funext x
  unfold Rele.q kp
  rw [Bool.not_and, Bool.not_not]
  congr 1
  rw [← decide_not]
  exact decide_eq_decide.2 (by omega)
theorem len_now (g : SpaA.Good T E now held pins) : now.length ≤ 64 := by
  have := g.a0
  have := g.a1
  have h := few T.toNat now (up_nodup _ g.nowUp) (fun x hx => by have := g.now x hx; omega)
  omega
theorem len_held (g : SpaA.Good T E now held pins) : held.length ≤ 64 := by
  have := g.a0
  have := g.a1
  have h := few T.toNat (held.map (·.f0)) (up_nodup _ g.heldUp) (fun x hx => by have := g.held x hx; omega)
  rw [List.length_map] at h
  omega
theorem free_up (a : Int) (l2 l4 : List Int) : (free a l2 l4).Pairwise (· < ·) := by
  unfold free pages
  refine List.Pairwise.filter _ ?_
  rw [List.pairwise_map]
  exact List.pairwise_lt_range.imp (fun h => by omega)
theorem free_mem {a : Int} {l2 l4 : List Int} {x : Int} (h : x ∈ free a l2 l4) : (0 ≤ x ∧ x ≤ a - 1) ∧ x ∉ l2 ∧ x ∉ l4 := by
  unfold free pages at h
  obtain ⟨h1, h2⟩ := List.mem_filter.1 h
  obtain ⟨i, hi, rfl⟩ := List.mem_map.1 h1
  simp only [Bool.and_eq_true, Bool.not_eq_true', decide_eq_false_iff_not] at h2
  have := List.mem_range.1 hi
  exact ⟨by omega, h2⟩
theorem Good_commit (g : SpaA.Good T E now held pins) (hE : E < 1000000) (m : Nat) (q : S74 → Bool) : SpaA.Good T (E + 1) ((free T now (held.map (·.f0))).take m) ((mg E (held.length + now.length) held now).filter q) pins := by
  have hm : ∀ x ∈ (mg E (held.length + now.length) held now).filter q, x ∈ held ∨ x ∈ now.map (pg E) := fun x hx => (mg_mem E x _ _ _ (Nat.le_refl _)).1 (List.mem_filter.1 hx).1
  have hf0 : ∀ x ∈ (mg E (held.length + now.length) held now).filter q, x.f0 ∈ now ∨ x.f0 ∈ held.map (·.f0) := fun x hx => by
    rcases hm x hx with h | h
    · exact .inr (List.mem_map.2 ⟨x, h, rfl⟩)
    · obtain ⟨z, hz, rfl⟩ := List.mem_map.1 h
      exact .inl hz
  have hu : Up ((mg E (held.length + now.length) held now).filter q) := (mg_up E _ _ _ (Nat.le_refl _) (Good_up g) g.nowUp (Good_apart g)).filter _
  refine ⟨g.a0, g.a1, by have := g.b0; omega, by omega, fun x hx => (free_mem (List.mem_of_mem_take hx)).1, (free_up T now _).sublist (List.take_sublist _ _), fun x hx => ?_, by rw [List.pairwise_map]; exact hu, fun x hx hn => ?_, fun x hx => ?_, g.pinsFew, fun x hx => by have := g.pins x hx; omega⟩
  · obtain ⟨y, hy, rfl⟩ := List.mem_map.1 hx
    rcases hf0 y hy with h | h
    · exact g.now _ h
    · exact g.held _ h
  · obtain ⟨y, hy, rfl⟩ := List.mem_map.1 hx
    have := free_mem (List.mem_of_mem_take hn)
    rcases hf0 y hy with h | h
    · exact this.2.1 h
    · exact this.2.2 h
  · rcases hm x hx with h | h
    · have := g.since x h
      omega
    · obtain ⟨z, hz, rfl⟩ := List.mem_map.1 h
      have := g.b0
      show 0 ≤ E ∧ E ≤ E + 1 - 1
      omega
theorem Good_less (g : SpaA.Good T E now held pins) (q : S74 → Bool) (pins' : List Int) (h : pins'.Sublist pins) : SpaA.Good T E now (held.filter q) pins' :=
  ⟨g.a0, g.a1, g.b0, g.b1, g.now, g.nowUp, fun x hx => g.held x ((List.filter_sublist.map _).subset hx), g.heldUp.sublist (List.filter_sublist.map _), fun x hx => g.apart x ((List.filter_sublist.map _).subset hx), fun x hx => g.since x (List.mem_filter.1 hx).1, Nat.le_trans h.length_le g.pinsFew, fun x hx => g.pins x (h.subset hx)⟩
/-- Both sides' steps. -/
theorem step (g : SpaA.Good T E now held pins) (kind n : Int) : ∃ r : Out, Ev (fun k => Act.f k T E now held pins kind n) r ∧ Ev (fun k => Sstp.f k T E now held pins kind n) r ∧ SpaA.Good T r.E r.now r.held r.pins ∧ r.pages.length ≤ 64 := by
  have l1 := len_now g
  have l2 := len_held g
  have l3 := g.pinsFew
  have b0 := g.b0
  have b1 := g.b1
  have a0 := g.a0
  have a1 := g.a1
  have hc : ∀ k, Sstp.f k T E now held pins kind n = (if kind = 1 then _ else _) := fun k => if_pos ⟨by omega, by omega, by omega⟩
  by_cases k1 : kind = 1
  · obtain ⟨fr, hfr⟩ : ∃ fr, fr = free T now (held.map (·.f0)) := ⟨_, rfl⟩
    have e1 : Ev (fun k => impl_Space_free.f k T E now held pins) fr := by rw [hfr]; exact impl_free T E now pins held (by omega) a1 (by omega) (by omega)
    have e2 : Ev (fun k => spec_l04Free.f k T E now held pins) fr := by rw [hfr]; exact spec_free T E now pins held (by omega) a1 (by omega) (by omega)
    have fl : fr.length ≤ 64 := by rw [hfr]; exact Nat.le_trans (free_len T (by omega) _ _) (by omega)
    have s1 : ∀ k, Act.f k T E now held pins kind n = _ := fun k => by unfold Act.f; exact if_pos k1
    have s2 : ∀ k, Sstp.f k T E now held pins kind n = _ := fun k => (hc k).trans (if_pos k1)
    by_cases w : 0 ≤ n ∧ n ≤ 64
    · have w1 : impl_within.f n 0 64 = some true := by unfold impl_within.f; rw [if_pos w.1, decide_eq_true w.2]
      have w2 : spec_l01In.f n 0 64 = some true := by unfold spec_l01In.f; rw [if_pos w.1, decide_eq_true w.2]
      by_cases c : (fr.length : Int) < n ∨ E = 1000000
      · refine ⟨⟨E, now, held, pins, 7, []⟩, Ev.congr s1 (Ev.bind e1 (Ev.congr (f := fun _ => some _) (fun k => ?_) (Ev.now _))), Ev.congr s2 (Ev.bind e2 (Ev.congr (f := fun _ => some _) (fun k => ?_) (Ev.now _))), g, by simp⟩
        · rw [w1, Option.bind_some, if_pos rfl, if_pos (by omega)]
        · rw [w2, Option.bind_some, if_pos rfl, if_pos c]
      · have hE : wrap64 (E + 1) = E + 1 := wrap_id (by omega) (by omega)
        have gc := Good_commit g (by omega) n.toNat (kp (E + 1) pins)
        rw [← hfr] at gc
        have hs : ∀ x ∈ held ++ now.map (pg E), 0 ≤ x.f0 ∧ x.f0 < 4294967296 := fun x hx => by
          have : 0 ≤ x.f0 ∧ x.f0 ≤ T - 1 := by
            rcases List.mem_append.1 hx with h | h
            · exact g.held _ (List.mem_map.2 ⟨x, h, rfl⟩)
            · obtain ⟨z, hz, rfl⟩ := List.mem_map.1 h
              exact g.now z hz
          omega
        have hd : ∀ x ∈ held ++ now.map (pg E), ∀ y ∈ held ++ now.map (pg E), x.f0 = y.f0 → x = y := fun x hx y hy e => by
          have hn := all_nodup g
          exact inj_of _ hn x hx y hy e
        refine ⟨⟨E + 1, fr.take n.toNat, (mg E (held.length + now.length) held now).filter (kp (E + 1) pins), pins, 0, fr.take n.toNat⟩, Ev.congr s1 (Ev.bind e1 (Ev.congr (f := fun _ => some _) (fun k => ?_) (Ev.now _))), Ev.congr s2 (Ev.bind e2 (Ev.congr (f := fun _ => some _) (fun k => ?_) (Ev.now _))), gc, Nat.le_trans (List.length_take_le _ _) (by omega)⟩
        · rw [w1, Option.bind_some, if_pos rfl, if_neg (by omega), if_pos ⟨w.1, by omega, by omega, by omega, hs, hd⟩, hE, merged g, left_is]
        · rw [w2, Option.bind_some, if_pos rfl, if_neg c, if_pos ⟨w.1, by omega⟩, hE]
    · have w1 : impl_within.f n 0 64 = some false := by
        unfold impl_within.f
        by_cases h : n ≥ 0
        · rw [if_pos h, decide_eq_false (by omega)]
        · rw [if_neg h]
      have w2 : spec_l01In.f n 0 64 = some false := by
        unfold spec_l01In.f
        by_cases h : n ≥ 0
        · rw [if_pos h, decide_eq_false (by omega)]
        · rw [if_neg h]
      refine ⟨⟨E, now, held, pins, 4, []⟩, Ev.congr s1 (Ev.bind e1 (Ev.congr (f := fun _ => some _) (fun k => ?_) (Ev.now _))), Ev.congr s2 (Ev.bind e2 (Ev.congr (f := fun _ => some _) (fun k => ?_) (Ev.now _))), g, by simp⟩
      · rw [w1, Option.bind_some, if_neg (by decide)]
      · rw [w2, Option.bind_some, if_neg (by decide)]
  by_cases k2 : kind = 2
  · have s1 : ∀ k, Act.f k T E now held pins kind n = _ := fun k => by unfold Act.f; exact (if_neg k1).trans (if_pos k2)
    have s2 : ∀ k, Sstp.f k T E now held pins kind n = _ := fun k => (hc k).trans ((if_neg k1).trans (if_pos k2))
    by_cases c : pins.length = 4
    · exact ⟨⟨E, now, held, pins, 7, []⟩, Ev.congr s1 (Ev.congr (fun k => if_pos (by omega)) (Ev.now _)), Ev.congr s2 (Ev.congr (fun k => if_pos c) (Ev.now _)), g, by simp⟩
    · refine ⟨⟨E, now, held, pins ++ [E], 0, now⟩, Ev.congr s1 (Ev.congr (fun k => (if_neg (by omega)).trans (if_pos (by omega))) (Ev.now _)), Ev.congr s2 (Ev.congr (fun k => if_neg c) (Ev.now _)), ?_, l1⟩
      exact ⟨g.a0, g.a1, g.b0, g.b1, g.now, g.nowUp, g.held, g.heldUp, g.apart, g.since, by simp; omega, fun x hx => by
        rcases List.mem_append.1 hx with h | h
        · exact g.pins x h
        · rw [List.mem_singleton.1 h]; exact ⟨b0, Int.le_refl _⟩⟩
  by_cases k3 : kind = 3
  · have s1 : ∀ k, Act.f k T E now held pins kind n = _ := fun k => by unfold Act.f; exact (if_neg k1).trans ((if_neg k2).trans ((if_pos k3).trans (if_pos (by omega))))
    have s2 : ∀ k, Sstp.f k T E now held pins kind n = _ := fun k => (hc k).trans ((if_neg k1).trans ((if_neg k2).trans (if_pos k3)))
    by_cases w : 0 ≤ n ∧ n ≤ (pins.length : Int) - 1
    · have w1 : impl_within.f n 0 ((pins.length : Int) - 1) = some true := by unfold impl_within.f; rw [if_pos w.1, decide_eq_true w.2]
      have w2 : spec_l01In.f n 0 ((pins.length : Int) - 1) = some true := by unfold spec_l01In.f; rw [if_pos w.1, decide_eq_true w.2]
      refine ⟨⟨E, now, held.filter (kp E (pins.take n.toNat ++ pins.drop (n.toNat + 1))), pins.take n.toNat ++ pins.drop (n.toNat + 1), 0, []⟩, Ev.congr s1 (Ev.congr (f := fun _ => some _) (fun k => ?_) (Ev.now _)), Ev.congr s2 (Ev.congr (f := fun _ => some _) (fun k => ?_) (Ev.now _)), ?_, by simp⟩
      · rw [w1, Option.bind_some, if_pos rfl, if_pos ⟨w.1, by omega⟩, left_is, List.eraseIdx_eq_take_drop_succ]
      · rw [w2, Option.bind_some, if_pos rfl, if_pos ⟨w.1, by omega⟩]
      · refine Good_less g _ _ ?_
        rw [← List.eraseIdx_eq_take_drop_succ]
        exact List.eraseIdx_sublist _ _
    · have w1 : impl_within.f n 0 ((pins.length : Int) - 1) = some false := by
        unfold impl_within.f
        by_cases h : n ≥ 0
        · rw [if_pos h, decide_eq_false (by omega)]
        · rw [if_neg h]
      have w2 : spec_l01In.f n 0 ((pins.length : Int) - 1) = some false := by
        unfold spec_l01In.f
        by_cases h : n ≥ 0
        · rw [if_pos h, decide_eq_false (by omega)]
        · rw [if_neg h]
      refine ⟨⟨E, now, held, pins, 5, []⟩, Ev.congr s1 (Ev.congr (f := fun _ => some _) (fun k => ?_) (Ev.now _)), Ev.congr s2 (Ev.congr (f := fun _ => some _) (fun k => ?_) (Ev.now _)), g, by simp⟩
      · rw [w1, Option.bind_some, if_neg (by decide)]
      · rw [w2, Option.bind_some, if_neg (by decide)]
  exact ⟨⟨E, now, held, pins, 3, []⟩, Ev.congr (f := fun _ => some _) (fun k => by unfold Act.f; exact (if_neg k1).trans ((if_neg k2).trans (if_neg k3))) (Ev.now _), Ev.congr (f := fun _ => some _) (fun k => (hc k).trans ((if_neg k1).trans ((if_neg k2).trans (if_neg k3)))) (Ev.now _), g, by simp⟩
end
end Go.Proofs.Ytcnkacbgcmnokaa.SameA
/- The law of one step fits every space and act; plain lemmas. -/
namespace Go.Proofs.Ytcnkacbgcmnokaa.FitsA
open Go Go.RowKit Go.Proofs.YtcnkacbgcmnokaaW.PrintWords Go.Proofs.YtcnkacbgcmnokaaW.PrintLast Go.Proofs.YtcnkacbgcmnokaaW.PrintMore Go.Proofs.Ytcnkacbgcmnokaa.XA Go.Proofs.Ytcnkacbgcmnokaa.Aid Go.Proofs.Ytcnkacbgcmnokaa.Loops Go.Proofs.Ytcnkacbgcmnokaa.SpaA Go.Proofs.Ytcnkacbgcmnokaa.SameA Go.Proofs.Ytcnkacbgcmnokaa.MarkShA Go.Proofs.Ytcnkacbgcmnokaa.MarkSfA Go.Proofs.Ytcnkacbgcmnokaa.MarkE
set_option linter.unusedVariables false
set_option linter.unusedSimpArgs false
theorem clone_ints (l : List Int) (h : l.length ≤ 1048576) : slices_Clone_int_int.f l = some l := by unfold slices_Clone_int_int.f; rw [if_pos (by omega)]
theorem clone_helds (l : List S74) (h : l.length ≤ 1048576) : impl_Held.f l = some l := by unfold impl_Held.f; rw [if_pos (by omega)]
theorem copy_is (a b : Int) (l2 : List Int) (l3 : List S74) (l4 : List Int) (h2 : l2.length ≤ 1048576) (h3 : l3.length ≤ 1048576) (h4 : l4.length ≤ 1048576) : impl_copySpace.f a b l2 l3 l4 = some (a, b, l2, l3, l4) := by
  unfold impl_copySpace.f
  rw [clone_ints l2 h2, Option.bind_some, clone_helds l3 h3, Option.bind_some, clone_ints l4 h4, Option.bind_some]
/-- The results are the same, and small. -/
theorem both (a b : Int) (l2 : List Int) (l3 : List S74) (l4 : List Int) (kind n : Int) (h2 : l2.length ≤ 1048576) (h3 : l3.length ≤ 1048576) (h4 : l4.length ≤ 1048576) :
    ∃ r : Istep.Res, Ev (fun k => Istep.f k a b l2 l3 l4 kind n) r ∧ Ev (fun k => Sspc.f k a b l2 l3 l4 kind n) r ∧ r.o.now.length ≤ 1048576 ∧ r.o.held.length ≤ 1048576 ∧ r.o.pins.length ≤ 1048576 ∧ r.o.pages.length ≤ 1048576 := by
  obtain ⟨t, hs, hi, hg⟩ := ok_both a b l2 l3 l4 h2 h3 h4
  cases t with
  | false =>
    refine ⟨⟨0, ⟨0, [], [], [], 0, []⟩, 1⟩, Ev.congr (f := fun _ => some _) (fun k => ?_) (Ev.now _), Ev.congr (f := fun _ => some _) (fun k => ?_) (Ev.now _), by simp, by simp, by simp, by simp⟩
    · unfold Istep.f
      rw [hi, Option.bind_some, if_neg (by decide)]
    · unfold Sspc.f
      rw [hs, Option.bind_some, if_neg (by decide)]
  | true =>
    obtain ⟨r, e1, e2, gr, hp⟩ := SameA.step (hg.1 rfl) kind n
    have b2 := len_now gr
    have b3 := len_held gr
    have b4 := gr.pinsFew
    refine ⟨⟨a, r, 0⟩, Ev.congr (f := fun k => (Act.f k a b l2 l3 l4 kind n).bind fun r => some ⟨a, r, 0⟩) (fun k => ?_) (Ev.bind e1 (Ev.now _)), Ev.congr (f := fun k => (Sstp.f k a b l2 l3 l4 kind n).bind fun r => if r.now.length ≤ 4194304 ∧ r.held.length ≤ 4194304 ∧ r.pins.length ≤ 4194304 then some ⟨a, r, 0⟩ else none) (fun k => ?_) (Ev.bind e2 (Ev.congr (fun k => if_pos ⟨by omega, by omega, by omega⟩) (Ev.now _))), Nat.le_trans b2 (by omega), Nat.le_trans b3 (by omega), Nat.le_trans b4 (by omega), Nat.le_trans hp (by omega)⟩
    · unfold Istep.f
      rw [hi, Option.bind_some, if_pos rfl, copy_is a b l2 l3 l4 h2 h3 h4, Option.bind_some]
    · unfold Sspc.f
      rw [hs, Option.bind_some, if_pos rfl]
end Go.Proofs.Ytcnkacbgcmnokaa.FitsA
