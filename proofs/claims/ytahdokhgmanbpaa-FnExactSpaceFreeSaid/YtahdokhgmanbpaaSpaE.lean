/- Spaces: sizes, copies, likeness, and what makes a space right on both sides; plain lemmas. -/
import Derived.Test.YtahdokhgmanbpaaXE1
import Derived.Test.YtahdokhgmanbpaaXE2
import Derived.Test.YtahdokhgmanbpaaXE3
import Derived.Test.YtahdokhgmanbpaaXEHSpaceOK
import Derived.Test.YtahdokhgmanbpaaXEHspecSpaceOK
import Derived.Test.YtahdokhgmanbpaaLoops
namespace Go.Proofs.Ytahdokhgmanbpaa.SpaE
open Go Go.RowKit Go.Proofs.Ytahdokhgmanbpaa.XE Go.Proofs.YtahdokhgmanbpaaW.PrintWords Go.Proofs.YtahdokhgmanbpaaW.PrintLast Go.Proofs.YtahdokhgmanbpaaW.PrintMore Go.Proofs.Ytahdokhgmanbpaa.Aid Go.Proofs.Ytahdokhgmanbpaa.Loops
set_option linter.unusedVariables false
set_option linter.unusedSimpArgs false

abbrev H0 := S88
abbrev H := S71
def conv (x : H0) : H := ⟨x.f0, x.f1⟩
theorem rdH0 (xs : List H0) (i : Nat) (h : i < xs.length) : rd_T88 xs (i : Int) = xs[i] := by
  simp [rd_T88, List.getD_eq_getElem?_getD, List.getElem?_eq_getElem h]
theorem rdH (xs : List H) (i : Nat) (h : i < xs.length) : rd_T71 xs (i : Int) = xs[i] := by
  simp [rd_T71, List.getD_eq_getElem?_getD, List.getElem?_eq_getElem h]
theorem rdI (xs : List Int) (i : Nat) (h : i < xs.length) : rd xs (i : Int) = xs[i] := by
  simp [rd, List.getD_eq_getElem?_getD, List.getElem?_eq_getElem h]
theorem ints_size (xs : List Int) (hl : xs.length ≤ 9223372036854775807) (a : Int) (h0 : 0 ≤ a) (h1 : a ≤ 1048576) :
    ∃ r, laws_szIntS.f xs a = some r ∧ r ≤ a ∧ (0 ≤ r → xs.length ≤ 1048576) := by
  unfold laws_szIntS.f
  rw [sz_text a xs.length h0 h1 (by omega) (by omega)]
  by_cases hn : a - (xs.length : Int) < 0
  · exact ⟨-1, if_pos hn, by omega, by omega⟩
  · exact ⟨_, if_neg hn, by omega, fun _ => by omega⟩
theorem helds_size (xs : List H0) (hl : xs.length ≤ 9223372036854775807) (a : Int) (h0 : 0 ≤ a) (h1 : a ≤ 1048576) :
    ∃ r, laws_szHeldS.f xs a = some r ∧ r ≤ a ∧ (0 ≤ r → xs.length ≤ 1048576) := by
  unfold laws_szHeldS.f
  rw [sz_text a xs.length h0 h1 (by omega) (by omega)]
  by_cases hn : a - (xs.length : Int) < 0
  · exact ⟨-1, if_pos hn, by omega, by omega⟩
  · exact ⟨_, if_neg hn, by omega, fun _ => by omega⟩
theorem space_size (a b : Int) (l2 : List Int) (l3 : List H0) (l4 : List Int) (h2 : l2.length ≤ 9223372036854775807) (h3 : l3.length ≤ 9223372036854775807) (h4 : l4.length ≤ 9223372036854775807) :
    ∃ r, laws_szSpace.f a b l2 l3 l4 1048576 = some r ∧ (0 ≤ r → l2.length ≤ 1048576 ∧ l3.length ≤ 1048576 ∧ l4.length ≤ 1048576) := by
  unfold laws_szSpace.f
  obtain ⟨r, hr, hra, hrl⟩ := ints_size l2 h2 1048576 (by omega) (by omega)
  rw [hr, Option.bind_some]
  by_cases hn : r < 0
  · exact ⟨-1, if_pos hn, by omega⟩
  rw [if_neg hn]
  obtain ⟨s, hs, hsa, hsl⟩ := helds_size l3 h3 r (by omega) (by omega)
  rw [hs, Option.bind_some]
  by_cases hn2 : s < 0
  · exact ⟨-1, if_pos hn2, by omega⟩
  rw [if_neg hn2]
  obtain ⟨t, ht, hta, htl⟩ := ints_size l4 h4 s (by omega) (by omega)
  rw [ht, Option.bind_some]
  by_cases hn3 : t < 0
  · exact ⟨-1, if_pos hn3, by omega⟩
  rw [if_neg hn3]
  exact ⟨t, rfl, fun h => ⟨hrl (by omega), hsl (by omega), htl h⟩⟩
theorem ints_copy (xs : List Int) (hl : xs.length ≤ 1048576) : Ev (fun k => laws_toIntS.f k xs) xs := by
  unfold laws_toIntS.f
  refine Ev.congr (fun k => (if_pos (by omega)).trans (if_pos (by simp; omega))) ?_
  have h := copyE (fun k ys i => laws_toIntS.l0 k xs ys i) xs (fun x => x) (fun _ i => some (rd xs i)) 0 (by omega) (fun i hi => by rw [rdI xs i hi]; exact Ev.now _) (fun _ _ _ => rfl)
  simpa using h
theorem helds_copy (xs : List H0) (hl : xs.length ≤ 1048576) : Ev (fun k => laws_toHeldS.f k xs) (xs.map conv) := by
  unfold laws_toHeldS.f
  refine Ev.congr (fun k => (if_pos (by omega)).trans (if_pos (by simp; omega))) ?_
  have h := copyE (fun k ys i => laws_toHeldS.l0 k xs ys i) xs conv (fun _ i => some ⟨(rd_T88 xs i).f0, (rd_T88 xs i).f1⟩) z71 (by omega) (fun i hi => by rw [rdH0 xs i hi]; exact Ev.now _) (fun _ _ _ => rfl)
  simpa using h
theorem space_copy (a b : Int) (l2 : List Int) (l3 : List H0) (l4 : List Int) (h2 : l2.length ≤ 1048576) (h3 : l3.length ≤ 1048576) (h4 : l4.length ≤ 1048576) :
    Ev (fun k => laws_toSpace.f k a b l2 l3 l4) (a, b, l2, l3.map conv, l4) := by
  unfold laws_toSpace.f
  exact Ev.bind (ints_copy l2 h2) (Ev.bind (helds_copy l3 h3) (Ev.bind (ints_copy l4 h4) (Ev.now _)))
theorem ints_same (xs : List Int) (hl : xs.length ≤ 1048576) : Ev (fun k => laws_eqIntS.f k xs xs) true := by
  unfold laws_eqIntS.f
  refine Ev.congr (fun k => if_pos rfl) ?_
  exact eqP (fun k i => laws_eqIntS.l0 k xs xs i) xs.length xs.length (fun i => rd xs i = rd xs i) (by omega) rfl (fun _ => rfl) (fun _ _ => rfl)
theorem helds_same (xs : List H) (hl : xs.length ≤ 1048576) : Ev (fun k => laws_eqHeldS.f k xs xs) true := by
  unfold laws_eqHeldS.f
  refine Ev.congr (fun k => if_pos rfl) ?_
  exact eqE (fun k i => laws_eqHeldS.l0 k xs xs i) xs.length xs.length (fun _ i => laws_eqHeld.f (rd_T71 xs i).f0 (rd_T71 xs i).f1 (rd_T71 xs i).f0 (rd_T71 xs i).f1) (by omega) rfl (fun i hi => by unfold laws_eqHeld.f; rw [if_pos rfl, if_pos rfl]; exact Ev.now _) (fun _ _ => rfl)
theorem space_same (a b : Int) (l2 : List Int) (l3 : List H) (l4 : List Int) (h2 : l2.length ≤ 1048576) (h3 : l3.length ≤ 1048576) (h4 : l4.length ≤ 1048576) :
    Ev (fun k => laws_eqSpace.f k a b l2 l3 l4 a b l2 l3 l4) true := by
  unfold laws_eqSpace.f
  refine Ev.congr (fun k => (if_pos rfl).trans (if_pos rfl)) ?_
  exact Ev.bind (ints_same l2 h2) (Ev.congr (fun k => if_pos rfl) (Ev.bind (helds_same l3 h3) (Ev.congr (fun k => if_pos rfl) (Ev.bind (ints_same l4 h4) (Ev.congr (fun k => if_pos rfl) (Ev.now _))))))

/-- When a space is right. -/
structure Good (a b : Int) (l2 : List Int) (l3 : List H) (l4 : List Int) : Prop where
  a0 : 1 ≤ a
  a1 : a ≤ 64
  b0 : 0 ≤ b
  b1 : b ≤ 1000000
  now : ∀ x ∈ l2, 0 ≤ x ∧ x ≤ a - 1
  nowUp : l2.Pairwise (· < ·)
  held : ∀ x ∈ l3.map (·.f0), 0 ≤ x ∧ x ≤ a - 1
  heldUp : (l3.map (·.f0)).Pairwise (· < ·)
  apart : ∀ x ∈ l3.map (·.f0), x ∉ l2
  since : ∀ x ∈ l3, 0 ≤ x.f1 ∧ x.f1 ≤ b - 1
  pinsFew : l4.length ≤ 4
  pins : ∀ x ∈ l4, 0 ≤ x ∧ x ≤ b
theorem rise_from (lo hi : Int) : ∀ (l : List Int) (y : Int), impl_SpaceOK.rise lo hi (some y) l = true ↔ (∀ x ∈ l, lo ≤ x ∧ x ≤ hi) ∧ (y :: l).Pairwise (· < ·)
  | [], y => by simp [impl_SpaceOK.rise]
  | x :: xs, y => by
    simp only [impl_SpaceOK.rise, Bool.and_eq_true, impl_SpaceOK.win_iff, rise_from lo hi xs x, List.mem_cons, forall_eq_or_imp, List.pairwise_cons, Bool.not_eq_true', decide_eq_false_iff_not]
    constructor
    · rintro ⟨h1, h2, h3, h4, h5⟩
      exact ⟨⟨h1, h3⟩, ⟨by omega, fun z hz => by have := h4 z hz; omega⟩, h4, h5⟩
    · rintro ⟨⟨h1, h3⟩, ⟨h2, _⟩, h4, h5⟩
      exact ⟨h1, by omega, h3, h4, h5⟩
theorem rise_iff (lo hi : Int) (l : List Int) : impl_SpaceOK.rise lo hi none l = true ↔ (∀ x ∈ l, lo ≤ x ∧ x ≤ hi) ∧ l.Pairwise (· < ·) := by
  cases l with
  | nil => simp [impl_SpaceOK.rise]
  | cons x xs =>
    simp only [impl_SpaceOK.rise, Bool.and_eq_true, impl_SpaceOK.win_iff, rise_from, List.mem_cons, forall_eq_or_imp, true_and]
    constructor
    · rintro ⟨h1, h2, h3⟩
      exact ⟨⟨h1, h2⟩, h3⟩
    · rintro ⟨⟨h1, h2⟩, h3⟩
      exact ⟨h1, h2, h3⟩
theorem impl_ok (a b : Int) (l2 : List Int) (l3 : List H) (l4 : List Int) (h3 : l3.length ≤ 1048576) :
    ∃ t, impl_SpaceOK.f a b l2 l3 l4 = some t ∧ (t = true ↔ Good a b l2 l3 l4) := by
  unfold impl_SpaceOK.f
  rw [if_pos (by omega)]
  refine ⟨_, rfl, ?_⟩
  simp only [Bool.and_eq_true, Bool.not_eq_true', impl_SpaceOK.win_iff, rise_iff, List.any_eq_false, impl_SpaceOK.q1, impl_SpaceOK.q2, impl_SpaceOK.q3, decide_eq_true_eq, Bool.not_eq_false, Bool.not_eq_true]
  constructor
  · rintro ⟨⟨h1, h2⟩, ⟨h3, h4⟩, ⟨h5, h6⟩, ⟨h7, h8⟩, h9, h10, h11, h12⟩
    have e : wrap64 (a - 1) = a - 1 := wrap_id (by omega) (by omega)
    have e2 : wrap64 (b - 1) = b - 1 := wrap_id (by omega) (by omega)
    rw [e] at h5 h7
    refine ⟨h1, h2, h3, h4, h5, h6, h7, h8, h9, fun x hx => ?_, by omega, fun x hx => ?_⟩
    · have := h10 x hx
      rwa [e2] at this
    · exact h12 x hx
  · intro g
    have := g.a0
    have := g.a1
    have := g.b0
    have := g.b1
    have e : wrap64 (a - 1) = a - 1 := wrap_id (by omega) (by omega)
    have e2 : wrap64 (b - 1) = b - 1 := wrap_id (by omega) (by omega)
    rw [e]
    refine ⟨⟨g.a0, g.a1⟩, ⟨g.b0, g.b1⟩, ⟨g.now, g.nowUp⟩, ⟨g.held, g.heldUp⟩, g.apart, fun x hx => ?_, by have := g.pinsFew; omega, fun x hx => ?_⟩
    · rw [e2]
      exact g.since x hx
    · exact g.pins x hx
theorem few : ∀ (n : Nat) (l : List Int), l.Nodup → (∀ x ∈ l, 0 ≤ x ∧ x < (n : Int)) → l.length ≤ n
  | 0, l, _, h => by
    cases l with
    | nil => simp
    | cons x xs => exact absurd (h x List.mem_cons_self) (by omega)
  | n + 1, l, hn, h => by
    have h1 := few n (l.erase (n : Int)) (hn.erase _) (fun x hx => by
      obtain ⟨hne, hm⟩ := hn.mem_erase_iff.1 hx
      have := h x hm
      omega)
    by_cases hm : (n : Int) ∈ l
    · rw [List.length_erase_of_mem hm] at h1
      omega
    · rw [List.erase_of_not_mem hm] at h1
      omega
theorem up_steps (l : List Int) (h : ∀ i (hi : i + 1 < l.length), l[i] < l[i + 1]) : l.Pairwise (· < ·) := by
  rw [List.pairwise_iff_getElem]
  have key : ∀ (d i : Nat) (hd : i + 1 + d < l.length), l[i] < l[i + 1 + d] := by
    intro d
    induction d with
    | zero => exact fun i hd => h i hd
    | succ d ih =>
      intro i hd
      have h1 := ih i (by omega)
      have h2 := h (i + 1 + d) hd
      exact Int.lt_trans h1 h2
  intro i j hi hj hij
  obtain ⟨d, rfl⟩ : ∃ d, j = i + 1 + d := ⟨j - (i + 1), by omega⟩
  exact key d i hj
theorem now_iff (a : Int) (ha : 1 ≤ a) (ha' : a ≤ 64) (l : List Int) : (List.range l.length).all (spec_SpaceOK.k2 a l) = true ↔ (∀ x ∈ l, 0 ≤ x ∧ x ≤ a - 1) ∧ l.Pairwise (· < ·) := by
  have e : wrap64 (a - 1) = a - 1 := wrap_id (by omega) (by omega)
  rw [List.all_eq_true]
  constructor
  · intro h
    have h' : ∀ i (hi : i < l.length), (0 ≤ l[i] ∧ l[i] ≤ a - 1) ∧ (0 < i → rd l ((i : Int) - 1) < l[i]) := fun i hi => by
      have := h i (by simpa using hi)
      simp only [spec_SpaceOK.k2, Bool.and_eq_true, Bool.or_eq_true, Bool.not_eq_true', decide_eq_false_iff_not, e, spec_SpaceOK.win_iff, rdI l i hi] at this
      exact ⟨this.1, fun h0 => by rcases this.2.2 with h1 | h1 <;> omega⟩
    refine ⟨fun x hx => ?_, up_steps l fun i hi => ?_⟩
    · obtain ⟨i, hi, rfl⟩ := List.getElem_of_mem hx
      exact (h' i hi).1
    · have := (h' (i + 1) hi).2 (by omega)
      rwa [show (((i + 1 : Nat) : Int) - 1) = (i : Int) by omega, rdI l i (by omega)] at this
  · rintro ⟨h1, h2⟩ i hi
    have hi' : i < l.length := by simpa using hi
    rw [List.pairwise_iff_getElem] at h2
    simp only [spec_SpaceOK.k2, Bool.and_eq_true, Bool.or_eq_true, Bool.not_eq_true', decide_eq_false_iff_not, e, spec_SpaceOK.win_iff, rdI l i hi']
    refine ⟨h1 _ (List.getElem_mem hi'), fun hm => ?_, ?_⟩
    · obtain ⟨j, hj, hjx⟩ := List.getElem_of_mem hm
      rw [List.getElem_take] at hjx
      have hj' : j < i := by simp at hj; omega
      have := h2 j i (by omega) hi' hj'
      omega
    · by_cases h0 : 0 < i
      · right
        rw [show ((i : Int) - 1) = ((i - 1 : Nat) : Int) by omega, rdI l (i - 1) (by omega)]
        have := h2 (i - 1) i (by omega) hi' (by omega)
        omega
      · left
        exact h0
theorem held_iff (a b : Int) (ha : 1 ≤ a) (ha' : a ≤ 64) (hb : 0 ≤ b) (hb' : b ≤ 1000000) (l2 : List Int) (l : List H) : (List.range l.length).all (spec_SpaceOK.k3 a b l2 l) = true ↔ (∀ x ∈ l.map (·.f0), 0 ≤ x ∧ x ≤ a - 1) ∧ (l.map (·.f0)).Pairwise (· < ·) ∧ (∀ x ∈ l.map (·.f0), x ∉ l2) ∧ (∀ x ∈ l, 0 ≤ x.f1 ∧ x.f1 ≤ b - 1) := by
  have e : wrap64 (a - 1) = a - 1 := wrap_id (by omega) (by omega)
  have e2 : wrap64 (b - 1) = b - 1 := wrap_id (by omega) (by omega)
  rw [List.all_eq_true]
  constructor
  · intro h
    have h' : ∀ i (hi : i < l.length), (0 ≤ l[i].f0 ∧ l[i].f0 ≤ a - 1) ∧ l[i].f0 ∉ l2 ∧ (0 ≤ l[i].f1 ∧ l[i].f1 ≤ b - 1) ∧ (0 < i → (rd_T71 l ((i : Int) - 1)).f0 < l[i].f0) := fun i hi => by
      have := h i (by simpa using hi)
      simp only [spec_SpaceOK.k3, Bool.and_eq_true, Bool.or_eq_true, Bool.not_eq_true', decide_eq_false_iff_not, e, e2, spec_SpaceOK.win_iff, rdH l i hi, List.mem_append, not_or] at this
      exact ⟨this.1, this.2.1.1, this.2.2.1, fun h0 => by rcases this.2.2.2 with h1 | h1 <;> omega⟩
    refine ⟨fun x hx => ?_, up_steps _ fun i hi => ?_, fun x hx => ?_, fun x hx => ?_⟩
    · obtain ⟨y, hy, rfl⟩ := List.mem_map.1 hx
      obtain ⟨i, hi, rfl⟩ := List.getElem_of_mem hy
      exact (h' i hi).1
    · rw [List.length_map] at hi
      have := (h' (i + 1) hi).2.2.2 (by omega)
      rw [show (((i + 1 : Nat) : Int) - 1) = (i : Int) by omega, rdH l i (by omega)] at this
      simpa using this
    · obtain ⟨y, hy, rfl⟩ := List.mem_map.1 hx
      obtain ⟨i, hi, rfl⟩ := List.getElem_of_mem hy
      exact (h' i hi).2.1
    · obtain ⟨i, hi, rfl⟩ := List.getElem_of_mem hx
      exact (h' i hi).2.2.1
  · rintro ⟨h1, h2, h3, h4⟩ i hi
    have hi' : i < l.length := by simpa using hi
    rw [List.pairwise_iff_getElem] at h2
    have h2' : ∀ j (hj : j < i), (l[j]'(by omega)).f0 < l[i].f0 := fun j hj => by
      have := h2 j i (by rw [List.length_map]; omega) (by rw [List.length_map]; omega) hj
      simpa using this
    have hm : l[i].f0 ∈ l.map (·.f0) := List.mem_map.2 ⟨_, List.getElem_mem hi', rfl⟩
    simp only [spec_SpaceOK.k3, Bool.and_eq_true, Bool.or_eq_true, Bool.not_eq_true', decide_eq_false_iff_not, e, e2, spec_SpaceOK.win_iff, rdH l i hi', List.mem_append, not_or]
    refine ⟨h1 _ hm, ⟨h3 _ hm, fun hx => ?_⟩, h4 _ (List.getElem_mem hi'), ?_⟩
    · obtain ⟨y, hy, hyx⟩ := List.mem_map.1 hx
      obtain ⟨j, hj, rfl⟩ := List.getElem_of_mem hy
      rw [List.getElem_take] at hyx
      have hj' : j < i := by simp at hj; omega
      have := h2' j hj'
      omega
    · by_cases h0 : 0 < i
      · right
        rw [show ((i : Int) - 1) = ((i - 1 : Nat) : Int) by omega, rdH l (i - 1) (by omega)]
        have := h2' (i - 1) (by omega)
        omega
      · left
        exact h0
theorem up_nodup (l : List Int) (h : l.Pairwise (· < ·)) : l.Nodup := by
  unfold List.Nodup
  refine h.imp ?_
  intro x y hxy e
  omega
theorem spec_ok (a b : Int) (l2 : List Int) (l3 : List H) (l4 : List Int) (h2 : l2.length ≤ 1048576) (h3 : l3.length ≤ 1048576) (h4 : l4.length ≤ 1048576) :
    ∃ t, spec_SpaceOK.f a b l2 l3 l4 = some t ∧ (t = true ↔ Good a b l2 l3 l4) := by
  unfold spec_SpaceOK.f
  refine ⟨_, rfl, ?_⟩
  have es : wrap64 ((l2.length : Int) + (l3.length : Int)) = (l2.length : Int) + (l3.length : Int) := wrap_id (by omega) (by omega)
  have hp : (List.range l4.length).all (spec_SpaceOK.k4 b l4) = true ↔ ∀ x ∈ l4, 0 ≤ x ∧ x ≤ b := by
    rw [List.all_eq_true]
    constructor
    · intro h x hx
      obtain ⟨i, hi, rfl⟩ := List.getElem_of_mem hx
      have := h i (by simpa using hi)
      rwa [spec_SpaceOK.k4, spec_SpaceOK.win_iff, rdI l4 i hi] at this
    · intro h i hi
      have hi' : i < l4.length := by simpa using hi
      rw [spec_SpaceOK.k4, spec_SpaceOK.win_iff, rdI l4 i hi']
      exact h _ (List.getElem_mem hi')
  rw [Bool.and_eq_true, Bool.and_eq_true, Bool.and_eq_true, Bool.and_eq_true, Bool.and_eq_true, Bool.and_eq_true, spec_SpaceOK.win_iff, spec_SpaceOK.win_iff, es, hp]
  simp only [Bool.not_eq_true', decide_eq_false_iff_not]
  constructor
  · rintro ⟨⟨c1, c2⟩, ⟨c3, c4⟩, c5, c6, c7, c8, c9⟩
    obtain ⟨d1, d2⟩ := (now_iff a c1 c2 l2).1 c7
    obtain ⟨d3, d4, d5, d6⟩ := (held_iff a b c1 c2 c3 c4 l2 l3).1 c8
    exact ⟨c1, c2, c3, c4, d1, d2, d3, d4, d5, d6, by omega, c9⟩
  · intro g
    refine ⟨⟨g.a0, g.a1⟩, ⟨g.b0, g.b1⟩, ?_, by have := g.pinsFew; omega, (now_iff a g.a0 g.a1 l2).2 ⟨g.now, g.nowUp⟩, (held_iff a b g.a0 g.a1 g.b0 g.b1 l2 l3).2 ⟨g.held, g.heldUp, g.apart, g.since⟩, g.pins⟩
    have hn : (l2 ++ l3.map (·.f0)).Nodup := by
      rw [List.nodup_append]
      refine ⟨up_nodup _ g.nowUp, up_nodup _ g.heldUp, fun x hx y hy e => ?_⟩
      subst e
      exact g.apart x hy hx
    have hf := few a.toNat _ hn (fun x hx => by
      have := g.a0
      rcases List.mem_append.1 hx with h | h
      · have := g.now x h
        omega
      · have := g.held x h
        omega)
    rw [List.length_append, List.length_map] at hf
    have := g.a0
    omega
theorem ok_both (a b : Int) (l2 : List Int) (l3 : List H) (l4 : List Int) (h2 : l2.length ≤ 1048576) (h3 : l3.length ≤ 1048576) (h4 : l4.length ≤ 1048576) :
    ∃ t, spec_SpaceOK.f a b l2 l3 l4 = some t ∧ impl_SpaceOK.f a b l2 l3 l4 = some t ∧ (t = true ↔ Good a b l2 l3 l4) := by
  obtain ⟨t, ht, hg⟩ := spec_ok a b l2 l3 l4 h2 h3 h4
  obtain ⟨u, hu, hg'⟩ := impl_ok a b l2 l3 l4 h3
  have : t = u := Bool.eq_iff_iff.2 (hg.trans hg'.symm)
  exact ⟨t, ht, by rw [hu, this], hg⟩
end Go.Proofs.Ytahdokhgmanbpaa.SpaE
