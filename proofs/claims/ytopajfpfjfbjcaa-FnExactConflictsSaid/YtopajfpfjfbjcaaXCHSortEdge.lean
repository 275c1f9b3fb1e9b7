-- Written for this claim: a contract of one function, proved by hand; the places of its template filled by a program.
import Derived.Test.YtopajfpfjfbjcaaXC0
import Derived.Test.YtopajfpfjfbjcaaOwnK
import Derived.Test.YtopajfpfjfbjcaaEdgeF
import Derived.Test.YtopajfpfjfbjcaaComp
namespace Go.Proofs.Ytopajfpfjfbjcaa.XC
open Go Go.RowKit Go.Proofs.YtopajfpfjfbjcaaW.PrintWords Go.Proofs.YtopajfpfjfbjcaaW.PrintLast Go.Proofs.YtopajfpfjfbjcaaW.PrintMore
set_option linter.unusedVariables false
set_option linter.unusedSimpArgs false
open Go.Sort
def impl_Edge_30.pr (x : S55) : Int × Int := (x.f0, x.f1)
def impl_Edge_30.un (p : Int × Int) : S55 := ⟨p.1, p.2⟩
def impl_Edge_30.enc (x : S55) : List Value := [.int .i64 x.f0, .int .i64 x.f1]
def impl_Edge_30.enc2 (x : Int × Int) : List Value := [.int .i64 x.1, .int .i64 x.2]
instance impl_Edge_30.inh : Inhabited S55 := ⟨z55⟩
theorem impl_Edge_30.flat (l : List S55) : l.flatMap impl_Edge_30.enc = (l.map impl_Edge_30.pr).flatMap impl_Edge_30.enc2 := by
  rw [List.flatMap_map]
  rfl
theorem impl_Edge_30.unpr (l : List S55) : (l.map impl_Edge_30.pr).map impl_Edge_30.un = l := by
  rw [List.map_map, show impl_Edge_30.un ∘ impl_Edge_30.pr = id from rfl, List.map_id]
theorem impl_Edge_30.prun (l : List (Int × Int)) : (l.map impl_Edge_30.un).map impl_Edge_30.pr = l := by
  rw [List.map_map, show impl_Edge_30.pr ∘ impl_Edge_30.un = id from rfl, List.map_id]
theorem impl_Edge_30.cmp (g off size : Nat) (w : World) : CmpLays Try.prog 31 #[] impl_Edge_30.enc2 2 Ytopajfpfjfbjcaa.Swo.cf g off size w := by
  intro m os dk _ x y
  have h := Ytopajfpfjfbjcaa.EdgeF.closure31 x y (sortWorldK impl_Edge_30.enc2 2 w g off m dk os)
  exact h
/-- By From, then To. -/
def impl_Edge_30.f (l0 : List S55) : Option (List S55) := if l0.length < 4611686018427387904 then some (((l0.map impl_Edge_30.pr).mergeSort fun x y => !decide (Ytopajfpfjfbjcaa.Comp.lt y x)).map impl_Edge_30.un) else none
theorem impl_Edge_30.calls (P0_ : Nat → Prop) (u9000_ : Value) (l0 : List S55) (r : List S55) (w0 w : World) (hB : Below w0.heap.size w0 w) (ho0 : Kd.R k55 55 w w0.heap.size P0_ u9000_ l0) (h : impl_Edge_30.f l0 = some r) :
    Calls Try.prog 30 #[u9000_, .func (.func 31) #[] #[]] w fun e w' => e = .returned (.tuple #[]) ∧ Kd.R k55 55 w' w0.heap.size (fun k_ => (P0_ k_ ∨ w.heap.size ≤ k_)) u9000_ r ∧ Below w0.heap.size w0 w' ∧ Kept w w' (fun k_ => P0_ k_) := by
  unfold impl_Edge_30.f at h
  by_cases h2' : l0.length < 4611686018427387904
  rotate_left
  · rw [if_neg h2'] at h
    cases h
  rw [if_pos h2'] at h
  obtain rfl := Option.some.inj h
  clear h
  have HO := Ytopajfpfjfbjcaa.OwnK.own_of_R (enc := impl_Edge_30.enc) (k := 2) rfl (fun _ => rfl) (fun {_ _ _ _ _} hM => k55_openM hM) ho0
  have L := Try.sortEdge
  rcases HO.2 with ⟨rfl, h0⟩ | ⟨g, cap, cur, rfl, hbase, hb, h1, h2, h3, h4⟩
  · have hl : l0 = [] := List.length_eq_zero_iff.1 h0
    subst hl
    refine (AnyF.slices_SortFunc_none L none 0 _ w).mono ?_
    rintro e w' ⟨rfl, rfl⟩
    exact ⟨rfl, by simpa using Kd.R_mono ho0 (fun k hk => .inl hk), hB, Kept.refl _ _⟩
  · have hg : g < w.heap.size := (Array.getElem?_eq_some_iff.1 hb).1
    rw [impl_Edge_30.flat] at h4
    have hlm : (l0.map impl_Edge_30.pr).length = l0.length := List.length_map ..
    have hH := Ytopajfpfjfbjcaa.OwnK.holdsK_of_block (enc := impl_Edge_30.enc2) (k := 2) (fun _ => rfl) (xs := l0.map impl_Edge_30.pr) hb (by rw [hlm]; exact h4)
    have hc := AnyQ.slices_SortFunc_total L 2 (fun w => by kernel_rfl) (fun w => by kernel_rfl) impl_Edge_30.enc2 (fun _ => rfl) (fun x v hv => by
      simp only [impl_Edge_30.enc2, List.mem_cons, List.not_mem_nil, or_false] at hv
      rcases hv with rfl | rfl <;> rfl) Ytopajfpfjfbjcaa.Swo.cf Ytopajfpfjfbjcaa.Swo.swo_cf 31 #[] g 0 cap (l0.map impl_Edge_30.pr).toArray w (enters_of Try.func31 (by kernel_rfl) rfl) (impl_Edge_30.cmp g 0 _ w) hH hg (by simpa using h2') Ytopajfpfjfbjcaa.Swo.total_cf
    rw [show (l0.map impl_Edge_30.pr).toArray.size = l0.length by simp, Ytopajfpfjfbjcaa.Swo.sorted_cf] at hc
    refine hc.mono ?_
    rintro e w' ⟨rfl, n, os, rfl⟩
    have hlen : ((l0.map impl_Edge_30.pr).mergeSort fun x y => !decide (Ytopajfpfjfbjcaa.Comp.lt y x)).length = l0.length := by rw [List.length_mergeSort, hlm]
    have hll : (l0.map impl_Edge_30.pr).toArray.toList = l0.map impl_Edge_30.pr := rfl
    rw [hll]
    generalize ((l0.map impl_Edge_30.pr).mergeSort fun x y => !decide (Ytopajfpfjfbjcaa.Comp.lt y x)) = ts at hlen ⊢
    have htl : (ts.map impl_Edge_30.un).length = l0.length := by rw [List.length_map, hlen]
    have hr := Ytopajfpfjfbjcaa.OwnK.grownBy_putF (w := w) (g := g) (n := n) (os := os) (flatK impl_Edge_30.enc2 2 ts.toArray)
    have hsz : (flatK impl_Edge_30.enc2 2 ts.toArray).size = l0.length * 2 := by rw [size_flatK]; simp [hlen]
    have ho := Ytopajfpfjfbjcaa.OwnK.owns_putF (enc := impl_Edge_30.enc) (k := 2) (fun _ => rfl) (n := n) (os := os) (F := flatK impl_Edge_30.enc2 2 ts.toArray) (ts := ts.map impl_Edge_30.un) hbase hb (by rw [htl]; omega) h2 (by simpa using h3) (by rw [hsz, h3]; omega) (by rw [htl, hsz]; omega) (by
      rw [htl, Ytopajfpfjfbjcaa.OwnK.flatK_list (enc := impl_Edge_30.enc2) (k := 2) (fun _ => rfl) ts, impl_Edge_30.flat, impl_Edge_30.prun, List.take_of_length_le]
      rw [Ytopajfpfjfbjcaa.OwnK.flatMap_len (k := 2) (fun _ => rfl), hlen]
      omega)
    refine ⟨rfl, ?_, pw_below_grown hB (some g) hB.size hr (fun k hk => by cases hk; exact hbase), Kept.of_grown hr (Kept.refl _ _) (fun k hk => .inl (by cases hk; exact ho0.1 g rfl))⟩
    have hR := Ytopajfpfjfbjcaa.OwnK.R_of_own (d := k55) (ok := fun k_ => P0_ k_ ∨ w.heap.size ≤ k_) rfl (fun _ => rfl) (fun w base ok x => k55_mkM w base ok x) ho (fun k hk => .inl (by cases hk; exact ho0.1 g rfl))
    rw [htl] at hR
    exact hR

end Go.Proofs.Ytopajfpfjfbjcaa.XC
