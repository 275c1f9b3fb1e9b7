-- Written for this claim: a contract of one function, proved by hand; the places of its template filled by a program.
import Derived.Test.YtopajfpfjfbjcaaXC0
import Derived.Test.YtopajfpfjfbjcaaCompactE
namespace Go.Proofs.Ytopajfpfjfbjcaa.XC
open Go Go.RowKit Go.Proofs.YtopajfpfjfbjcaaW.PrintWords Go.Proofs.YtopajfpfjfbjcaaW.PrintLast Go.Proofs.YtopajfpfjfbjcaaW.PrintMore
set_option linter.unusedVariables false
set_option linter.unusedSimpArgs false
open Go.Sort
def impl_Edge_34.pr (x : S55) : Int × Int := (x.f0, x.f1)
def impl_Edge_34.un (p : Int × Int) : S55 := ⟨p.1, p.2⟩
def impl_Edge_34.enc (x : S55) : List Value := [.int .i64 x.f0, .int .i64 x.f1]
instance impl_Edge_34.inh : Inhabited S55 := ⟨z55⟩
theorem impl_Edge_34.flat (l : List S55) : l.flatMap impl_Edge_34.enc = (l.map impl_Edge_34.pr).flatMap Ytopajfpfjfbjcaa.CompactE.enc := by
  rw [List.flatMap_map]
  rfl
theorem impl_Edge_34.unpr (l : List S55) : (l.map impl_Edge_34.pr).map impl_Edge_34.un = l := by
  rw [List.map_map, show impl_Edge_34.un ∘ impl_Edge_34.pr = id from rfl, List.map_id]
theorem impl_Edge_34.prun (l : List (Int × Int)) : (l.map impl_Edge_34.un).map impl_Edge_34.pr = l := by
  rw [List.map_map, show impl_Edge_34.pr ∘ impl_Edge_34.un = id from rfl, List.map_id]
/-- Neighbours that are one, struck. -/
def impl_Edge_34.f (l0 : List S55) : Option (List S55) := if l0.length < 4611686018427387904 then some ((Lib.compact (l0.map impl_Edge_34.pr)).map impl_Edge_34.un) else none
theorem impl_Edge_34.calls (P0_ : Nat → Prop) (u9000_ : Value) (l0 : List S55) (r : List S55) (w0 w : World) (hB : Below w0.heap.size w0 w) (ho0 : Kd.R k55 55 w w0.heap.size P0_ u9000_ l0) (h : impl_Edge_34.f l0 = some r) :
    Calls Try.prog 34 #[u9000_] w fun e w' => ∃ v0_ : Value, e = .returned v0_ ∧ Kd.R k55 55 w' w0.heap.size (fun k_ => (P0_ k_ ∨ w.heap.size ≤ k_)) v0_ r ∧ Below w0.heap.size w0 w' ∧ Kept w w' (fun k_ => P0_ k_) := by
  unfold impl_Edge_34.f at h
  by_cases h2' : l0.length < 4611686018427387904
  rotate_left
  · rw [if_neg h2'] at h
    cases h
  rw [if_pos h2'] at h
  obtain rfl := Option.some.inj h
  clear h
  have HO := Ytopajfpfjfbjcaa.OwnK.own_of_R (enc := impl_Edge_34.enc) (k := 2) rfl (fun _ => rfl) (fun {_ _ _ _ _} hM => k55_openM hM) ho0
  by_cases hn : l0.length < 2
  · have hc : (Lib.compact (l0.map impl_Edge_34.pr)).map impl_Edge_34.un = l0 := by
      rw [Lib.compact_all _ (fun j hj => Lib.keeps_lt_one _ j (by rw [List.length_map] at hj; omega)), impl_Edge_34.unpr]
    rw [hc]
    rcases HO.2 with ⟨rfl, h0⟩ | ⟨g, cap, cur, rfl, _⟩
    · have hl : l0 = [] := List.length_eq_zero_iff.1 h0
      subst hl
      refine (Ytopajfpfjfbjcaa.CompactE.short none 0 0 w (by omega)).mono ?_
      rintro e w' ⟨rfl, rfl⟩
      exact ⟨_, rfl, Kd.R_mono ho0 (fun k hk => .inl hk), hB, Kept.refl _ _⟩
    · refine (Ytopajfpfjfbjcaa.CompactE.short _ _ _ w hn).mono ?_
      rintro e w' ⟨rfl, rfl⟩
      exact ⟨_, rfl, Kd.R_mono ho0 (fun k hk => .inl hk), hB, Kept.refl _ _⟩
  · rcases HO.2 with ⟨rfl, h0⟩ | ⟨g, cap, cur, rfl, hbase, hb, h1, h2, h3, h4⟩
    · omega
    · have hg : g < w.heap.size := (Array.getElem?_eq_some_iff.1 hb).1
      rw [impl_Edge_34.flat] at h4
      have hlm : (l0.map impl_Edge_34.pr).length = l0.length := List.length_map ..
      have hH := Ytopajfpfjfbjcaa.OwnK.holdsK_of_block (enc := Ytopajfpfjfbjcaa.CompactE.enc) (k := 2) (fun _ => rfl) (xs := l0.map impl_Edge_34.pr) hb (by rw [hlm]; exact h4)
      have hcl := Ytopajfpfjfbjcaa.CompactE.long g cap (l0.map impl_Edge_34.pr).toArray w (by simp; omega) hH (by simp; omega) (by simp; omega)
      rw [show (l0.map impl_Edge_34.pr).toArray.size = l0.length by simp] at hcl
      refine hcl.mono ?_
      have hcomp : Lib.compactUpTo (l0.map impl_Edge_34.pr).toArray l0.length = Lib.compact (l0.map impl_Edge_34.pr) := by rw [Lib.compact, hlm]
      rintro e w' ⟨rfl, q, F, rfl, f1, f2, f3⟩
      rw [hcomp] at f2 f3 ⊢
      generalize Lib.compact (l0.map impl_Edge_34.pr) = ts at f2 f3 ⊢
      have htl : (ts.map impl_Edge_34.un).length = ts.length := List.length_map ..
      have hr := Ytopajfpfjfbjcaa.OwnK.grownBy_putF (w := w) (g := g) (n := q) (os := #[]) F
      have ho := Ytopajfpfjfbjcaa.OwnK.owns_putF (enc := impl_Edge_34.enc) (k := 2) (fun _ => rfl) (n := q) (os := #[]) (F := F) (ts := ts.map impl_Edge_34.un) hbase hb (by rw [htl]; omega) h2 (by simpa using h3) (by rw [f1, h3]; omega) (by rw [htl, f1]; omega) (by rw [htl, impl_Edge_34.flat, impl_Edge_34.prun]; exact f3)
      have hgr : ∀ W : World, grow W #[] = W := fun W => by simp [grow]
      rw [hgr] at hr ho
      rw [htl] at ho
      refine ⟨_, rfl, ?_, pw_below_grown hB (some g) hB.size hr (fun k hk => by cases hk; exact hbase), Kept.of_grown hr (Kept.refl _ _) (fun k hk => .inl (by cases hk; exact ho0.1 g rfl))⟩
      rw [← htl] at ho
      rw [← htl]
      exact Ytopajfpfjfbjcaa.OwnK.R_of_own (d := k55) rfl (fun _ => rfl) (fun w base ok x => k55_mkM w base ok x) ho (fun k hk => .inl (by cases hk; exact ho0.1 g rfl))

end Go.Proofs.Ytopajfpfjfbjcaa.XC
