/- Sorted lists of pairs, repeats struck; plain lemmas, no program in sight. -/
import Derived.RowKit
import Derived.Shelf.SlSortCmp.NoneTotal
import Derived.Lib.SlicesCompact
namespace Go.Proofs.Ytopajfpfjfbjcaa.Comp
set_option linter.unusedVariables false
def lt (x y : Int × Int) : Prop := x.1 < y.1 ∨ (x.1 = y.1 ∧ x.2 < y.2)
instance (x y : Int × Int) : Decidable (lt x y) := inferInstanceAs (Decidable (x.1 < y.1 ∨ (x.1 = y.1 ∧ x.2 < y.2)))
theorem lt_irrefl (x : Int × Int) : ¬ lt x x := by
  unfold lt
  omega
theorem lt_trans {x y z : Int × Int} (h : lt x y) (k : lt y z) : lt x z := by
  unfold lt at *
  omega
theorem not_lt_eq {x y : Int × Int} (h : ¬ lt x y) (k : ¬ lt y x) : x = y := by
  unfold lt at h k
  obtain ⟨a, b⟩ := x
  obtain ⟨c, d⟩ := y
  simp only at h k
  have : a = c := by omega
  have : b = d := by omega
  simp [*]
/-- Two rising lists with the same members are one. -/
theorem same_of_mem : ∀ xs ys : List (Int × Int), xs.Pairwise lt → ys.Pairwise lt → (∀ a, a ∈ xs ↔ a ∈ ys) → xs = ys
  | [], [], _, _, _ => rfl
  | [], y :: ys, _, _, h => absurd ((h y).2 (by simp)) (by simp)
  | x :: xs, [], _, _, h => absurd ((h x).1 (by simp)) (by simp)
  | x :: xs, y :: ys, hx, hy, h => by
    obtain ⟨hx0, hx1⟩ := List.pairwise_cons.1 hx
    obtain ⟨hy0, hy1⟩ := List.pairwise_cons.1 hy
    have e : x = y := by
      rcases List.mem_cons.1 ((h x).1 (by simp)) with e | m1
      · exact e
      · rcases List.mem_cons.1 ((h y).2 (by simp)) with e | m2
        · exact e.symm
        · exact absurd (lt_trans (hx0 y m2) (hy0 x m1)) (lt_irrefl x)
    subst e
    have t : xs = ys := same_of_mem xs ys hx1 hy1 (fun a => by
      constructor
      · intro ha
        rcases List.mem_cons.1 ((h a).1 (by simp [ha])) with rfl | m
        · exact absurd (hx0 a ha) (lt_irrefl a)
        · exact m
      · intro ha
        rcases List.mem_cons.1 ((h a).2 (by simp [ha])) with rfl | m
        · exact absurd (hy0 a ha) (lt_irrefl a)
        · exact m)
    rw [t]
/-- Neighbours that are one, struck. -/
def comp : List (Int × Int) → List (Int × Int)
  | [] => []
  | [x] => [x]
  | x :: y :: r => if x = y then comp (y :: r) else x :: comp (y :: r)
theorem comp_mem : ∀ (l : List (Int × Int)) (a : Int × Int), a ∈ comp l ↔ a ∈ l
  | [], a => Iff.rfl
  | [x], a => Iff.rfl
  | x :: y :: r, a => by
    have ih := comp_mem (y :: r) a
    unfold comp
    split
    · rename_i e
      rw [ih, e]
      simp
    · rw [List.mem_cons, ih]
      simp
theorem comp_rising : ∀ l : List (Int × Int), l.Pairwise (fun x y => ¬ lt y x) → (comp l).Pairwise lt
  | [], _ => List.Pairwise.nil
  | [x], _ => by simp [comp]
  | x :: y :: r, h => by
    obtain ⟨h0, h1⟩ := List.pairwise_cons.1 h
    have ih := comp_rising (y :: r) h1
    unfold comp
    split
    · exact ih
    · rename_i hne
      refine List.pairwise_cons.2 ⟨fun a ha => ?_, ih⟩
      have ha' := (comp_mem (y :: r) a).1 ha
      have hxa := h0 a ha'
      refine Decidable.byContradiction fun hn => ?_
      have e : x = a := not_lt_eq hn hxa
      subst e
      rcases List.mem_cons.1 ha' with e | m
      · exact hne e
      · exact hne (not_lt_eq ((List.pairwise_cons.1 h1).1 x m) (h0 y (by simp)))
/-- The pairs that a list holds, sorted and struck, are any rising list of the same pairs. -/
theorem sorted_struck (l ys : List (Int × Int)) (hy : ys.Pairwise lt) (hm : ∀ a, a ∈ l ↔ a ∈ ys) : comp (l.mergeSort fun x y => !decide (lt y x)) = ys := by
  refine same_of_mem _ _ (comp_rising _ ?_) hy (fun a => by rw [comp_mem, List.mem_mergeSort, hm])
  have h := List.pairwise_mergeSort (le := fun x y : Int × Int => !decide (lt y x)) (by
    intro a b c h k
    simp only [Bool.not_eq_true', decide_eq_false_iff_not] at *
    unfold lt at *
    omega) (by
    intro a b
    by_cases h : lt b a
    · have : ¬ lt a b := fun k => lt_irrefl _ (lt_trans h k)
      simp [h, this]
    · simp [h]) l
  refine h.imp ?_
  intro x y hxy
  simpa using hxy
end Go.Proofs.Ytopajfpfjfbjcaa.Comp
namespace Go.Proofs.Ytopajfpfjfbjcaa.Swo
open Go Go.Proofs Go.Sort Go.Lib Go.Proofs.Ytopajfpfjfbjcaa.Comp
set_option linter.unusedVariables false
def or2 (p q : Int) : Int := if p = 0 then q else p
def cf (x y : Int × Int) : Int := or2 (Lib.compareInt x.1 y.1) (Lib.compareInt x.2 y.2)
theorem ltOf_cf (x y : Int × Int) : ltOf cf x y = decide (lt x y) := by
  unfold ltOf cf or2 Lib.compareInt lt
  by_cases h1 : x.1 < y.1
  · simp [h1]
  · by_cases h2 : y.1 < x.1
    · have h3 : ¬ x.1 = y.1 := by omega
      simp [h1, h2, h3]
    · have h3 : x.1 = y.1 := by omega
      by_cases h4 : x.2 < y.2
      · simp [h3, h4]
      · by_cases h5 : y.2 < x.2 <;> simp [h3, h4, h5]
theorem swo_cf : SWO (ltOf cf) := by
  refine ⟨fun x => ?_, fun x y z h1 h2 => ?_, fun x y z h1 h2 => ?_⟩
  · rw [ltOf_cf]
    exact decide_eq_false (lt_irrefl x)
  · rw [ltOf_cf] at *
    exact decide_eq_true (lt_trans (of_decide_eq_true h1) (of_decide_eq_true h2))
  · rw [ltOf_cf] at *
    have a := of_decide_eq_false h1
    have b := of_decide_eq_false h2
    refine decide_eq_false fun h => ?_
    unfold lt at *
    omega
theorem total_cf (x y : Int × Int) (h1 : ltOf cf x y = false) (h2 : ltOf cf y x = false) : x = y := by
  rw [ltOf_cf] at h1 h2
  exact not_lt_eq (of_decide_eq_false h1) (of_decide_eq_false h2)
theorem sorted_cf (l : List (Int × Int)) : (l.mergeSort fun x y => !(ltOf cf) y x) = l.mergeSort fun x y => !decide (lt y x) := by
  have : (fun x y => !(ltOf cf) y x) = fun x y : Int × Int => !decide (lt y x) := by
    funext x y
    rw [ltOf_cf]
  rw [this]
end Go.Proofs.Ytopajfpfjfbjcaa.Swo
namespace Go.Proofs.Ytopajfpfjfbjcaa.Struck
open Go Go.Proofs Go.Lib Go.Proofs.Ytopajfpfjfbjcaa.Comp
set_option linter.unusedVariables false
theorem mem_compact (d : Array (Int × Int)) (a : Int × Int) : a ∈ compactUpTo d d.size ↔ a ∈ d.toList := by
  unfold compactUpTo
  simp only [List.mem_map, List.mem_filter, List.mem_range]
  constructor
  · rintro ⟨j, ⟨hj, _⟩, rfl⟩
    rw [getElem!_pos d j hj]
    exact Array.getElem_mem_toList hj
  · intro h
    obtain ⟨j, hj, rfl⟩ := List.getElem_of_mem h
    have hj' : j < d.size := by simpa using hj
    have key : ∀ j, j < d.size → ∃ i, (i < d.size ∧ keeps d i = true) ∧ d[i]! = d[j]! := by
      intro j
      induction j with
      | zero => intro h0; exact ⟨0, ⟨h0, by simp [keeps]⟩, rfl⟩
      | succ j ih =>
        intro h0
        by_cases e : d[j + 1]! = d[j]!
        · obtain ⟨i, h1, h2⟩ := ih (by omega)
          exact ⟨i, h1, by rw [h2, e]⟩
        · exact ⟨j + 1, ⟨h0, keeps_pos e⟩, rfl⟩
    obtain ⟨i, h1, h2⟩ := key j hj'
    refine ⟨i, h1, ?_⟩
    rw [h2, getElem!_pos d j hj']
    simp
theorem rising_compact (d : Array (Int × Int)) (h : ∀ i j, i < j → j < d.size → ¬ lt d[j]! d[i]!) : (compactUpTo d d.size).Pairwise lt := by
  unfold compactUpTo
  rw [List.pairwise_map]
  have h1 : ((List.range d.size).filter (keeps d)).Pairwise (fun i j => (i < j ∧ j < d.size) ∧ keeps d j = true) := by
    have h2 : (List.range d.size).Pairwise (fun i j => i < j ∧ j < d.size) := by
      rw [List.pairwise_iff_getElem]
      intro i j hi hj hij
      simp only [List.getElem_range]
      simp only [List.length_range] at hj
      exact ⟨hij, hj⟩
    rw [List.pairwise_filter]
    exact h2.imp fun hab _ hb => ⟨hab, hb⟩
  refine h1.imp ?_
  rintro i j ⟨⟨hij, hj⟩, hk⟩
  have hne : d[j]! ≠ d[j - 1]! := by
    have := hk
    simp only [keeps, decide_eq_true_eq] at this
    rcases this with e | e
    · omega
    · exact e
  have a1 := h (j - 1) j (by omega) hj
  have a2 : lt d[j - 1]! d[j]! := Decidable.byContradiction fun hn => hne (not_lt_eq a1 hn)
  by_cases e : i = j - 1
  · rw [e]; exact a2
  · have a3 := h i (j - 1) (by omega) (by omega)
    refine Decidable.byContradiction fun hn => ?_
    unfold lt at *
    omega
/-- The pairs that a list holds, sorted by the library and struck, are any rising list of the same pairs. -/
theorem struck (l ys : List (Int × Int)) (hy : ys.Pairwise lt) (hm : ∀ a, a ∈ l ↔ a ∈ ys) : Lib.compact (l.mergeSort fun x y => !decide (lt y x)) = ys := by
  have h := List.pairwise_mergeSort (le := fun x y : Int × Int => !decide (lt y x)) (by
    intro a b c h k
    simp only [Bool.not_eq_true', decide_eq_false_iff_not] at *
    unfold lt at *
    omega) (by
    intro a b
    by_cases h : lt b a
    · have : ¬ lt a b := fun k => lt_irrefl _ (lt_trans h k)
      simp [h, this]
    · simp [h]) l
  have hmem : ∀ a, a ∈ l ↔ a ∈ l.mergeSort fun x y => !decide (lt y x) := fun a => List.mem_mergeSort.symm
  generalize (l.mergeSort fun x y => !decide (lt y x)) = s at h hmem ⊢
  have hs : s.length = s.toArray.size := by simp
  unfold Lib.compact
  rw [hs]
  refine same_of_mem _ _ (rising_compact _ ?_) hy (fun a => by rw [mem_compact, List.toList_toArray, ← hmem, hm])
  intro i j hij hj
  have hj' : j < s.length := by simpa using hj
  have := (List.pairwise_iff_getElem.1 h) i j (by omega) hj' hij
  rw [getElem!_pos _ j hj, getElem!_pos _ i (by simp; omega)]
  simpa using this
end Go.Proofs.Ytopajfpfjfbjcaa.Struck
