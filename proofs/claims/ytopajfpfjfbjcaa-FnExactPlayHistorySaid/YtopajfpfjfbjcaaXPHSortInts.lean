-- Written for this claim: a contract of one function, proved by hand; the places of its template filled by a program.
import Derived.Test.YtopajfpfjfbjcaaXP0
import Derived.Sort.OwnSortedInts
import Derived.Test.YtopajfpfjfbjcaaShelfS
namespace Go.Proofs.Ytopajfpfjfbjcaa.XP
open Go Go.RowKit Go.Proofs.YtopajfpfjfbjcaaW.PrintWords Go.Proofs.YtopajfpfjfbjcaaW.PrintLast Go.Proofs.YtopajfpfjfbjcaaW.PrintMore
set_option linter.unusedVariables false
set_option linter.unusedSimpArgs false
open Go.Sort
/-- The numbers, rising. -/
def slices_Sort_int_int.f (l0 : List Int) : Option (List Int) := if l0.length < 4611686018427387904 then some (l0.mergeSort fun x y => decide (x ≤ y)) else none
theorem slices_Sort_int_int.calls (P0_ : Nat → Prop) (u9000_ : Value) (l0 : List Int) (r : List Int) (w0 w : World) (hB : Below w0.heap.size w0 w) (ho0 : Kd.R (Kd.int .i64) 3 w w0.heap.size P0_ u9000_ l0) (h : slices_Sort_int_int.f l0 = some r) :
    Calls Try.prog 47 #[u9000_] w fun e w' => e = .returned (.tuple #[]) ∧ Kd.R (Kd.int .i64) 3 w' w0.heap.size (fun k_ => (P0_ k_ ∨ w.heap.size ≤ k_)) u9000_ r ∧ Below w0.heap.size w0 w' ∧ Kept w w' (fun k_ => P0_ k_) := by
  unfold slices_Sort_int_int.f at h
  by_cases h2' : l0.length < 4611686018427387904
  rotate_left
  · rw [if_neg h2'] at h
    cases h
  rw [if_pos h2'] at h
  obtain rfl := Option.some.inj h
  clear h
  have HO : w.ownsRow w0.heap.size 3 1 u9000_ l0.length (encs (Value.int .i64) l0) := Kd.own_of_R (h1 := fun _ => rfl) ho0
  rcases HO.2 with ⟨rfl, hn⟩ | ⟨g, cap, cur, rfl, hbase, hb, h1, h2, h3, h4⟩
  · have hl : l0 = [] := List.length_eq_zero_iff.1 hn
    subst hl
    refine (Try.slices_Sort_int_none none 0 w).mono ?_
    rintro e w' ⟨rfl, rfl⟩
    exact ⟨rfl, by rw [List.mergeSort_nil]; exact Kd.R_mono ho0 (fun k hk => .inl hk), hB, Kept.refl _ _⟩
  · have hg : g < w.heap.size := (Array.getElem?_eq_some_iff.1 hb).1
    have hc := Try.slices_Sort_int g 0 cap l0 w (holds_of_blockI hb (by simpa [encs] using h4)) hg h2'
    refine hc.mono ?_
    rintro e w' ⟨rfl, n, os, rfl⟩
    have hr := grownBy_sortedI (w := w) (g := g) (n := n) (os := os) (l0.mergeSort fun x y => decide (x ≤ y)).toArray
    have ho := ownsRow_sortedI (n := n) (os := os) (ts := l0.mergeSort fun x y => decide (x ≤ y)) (List.length_mergeSort l0) hbase hb h1 h2 (by simpa using h3)
    refine ⟨rfl, ?_, pw_below_grown hB (some g) hB.size hr (fun k hk => by cases hk; exact hbase), Kept.of_grown hr (Kept.refl _ _) (fun k hk => .inl (by cases hk; exact ho0.1 g rfl))⟩
    refine Kd.R_of_own (h1 := fun _ => rfl) ?_ (fun k hk => .inl (ho0.1 k hk))
    rw [List.length_mergeSort]
    exact ho

end Go.Proofs.Ytopajfpfjfbjcaa.XP
