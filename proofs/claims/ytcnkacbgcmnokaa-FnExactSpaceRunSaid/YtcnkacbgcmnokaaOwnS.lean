/- The library's SortFunc over a row of structs that the call owns, under a comparator that lays blocks and draws; no program's own text in sight. -/
import Derived.Test.YtcnkacbgcmnokaaOwnK
import Derived.Test.YtcnkacbgcmnokaaWMore
import Derived.Shelf.SlSortCmp.NoneTotal
namespace Go.Proofs.Ytcnkacbgcmnokaa.OwnS
open Go Go.RowKit Go.Proofs Go.Proofs.YtcnkacbgcmnokaaW.PrintWords Go.Sort Go.Shelf Go.Lib
set_option linter.unusedVariables false
set_option linter.unusedSimpArgs false
/-- Where the order parts the members there is one sorted permutation. -/
theorem sorted_on {α : Type} [Inhabited α] {lt : α → α → Bool} (hS : SWO lt) (l : List α) (hT : ∀ x ∈ l, ∀ y ∈ l, lt x y = false → lt y x = false → x = y) (d' : Array α) (hP : PermIn 0 l.toArray.size l.toArray d') (hSo : SortedIn lt 0 l.toArray.size d') : d'.toList = l.mergeSort fun x y => !lt y x := by
  obtain ⟨hsz, _, hperm⟩ := hP
  have e1 : d'.extract 0 l.toArray.size = d' := by rw [← hsz]; exact Array.extract_size
  rw [e1, Array.extract_size] at hperm
  have hpl : d'.toList.Perm l := by simpa using hperm
  refine List.Perm.eq_of_pairwise (le := fun x y => (!lt y x) = true) ?_ ?_ ?_ (hpl.trans (List.mergeSort_perm _ _).symm)
  · intro a b ha hb h1 h2
    simp only [Bool.not_eq_true'] at h1 h2
    exact hT a (hpl.mem_iff.1 ha) b (List.mem_mergeSort.1 hb) h2 h1
  · rw [List.pairwise_iff_getElem]
    intro i j hi hj hij
    have hi' : i < d'.size := by simpa using hi
    have hj' : j < d'.size := by simpa using hj
    have := hSo i j (Nat.zero_le _) hij (by omega)
    rw [getElem!_pos d' j hj', getElem!_pos d' i hi'] at this
    simpa using this
  · refine List.pairwise_mergeSort ?_ ?_ _
    · intro a b c h1 h2
      simp only [Bool.not_eq_true'] at h1 h2 ⊢
      exact hS.ntrans c b a h2 h1
    · intro a b
      cases h : lt b a with
      | false => simp
      | true => simp [hS.asymmA h]
theorem calls {P : Program} {ρ : Ren} (L : SlLaysF0.n6 P ρ) {α : Type} [Inhabited α] (k : Nat) (aE : ∀ w, (isAgg (ρ.t 24)).run P w = .ok true w) (zE : ∀ w, (Go.sizeOf (ρ.t 24)).run P w = .ok k w) (enc : α → List Value) (hk : ∀ x, (enc x).length = k) (h1 : ∀ x, ∀ v ∈ enc x, v.oneCell' = true) (cf : α → α → Int) (hO : SWO (ltOf cf)) (g : Nat)
    (eg : ∀ args w, (callFunc g args).run P w = .ok (.enter g args) w)
    (hcmp : ∀ (x y : α) (W : World), Calls P g #[.agg (enc x).toArray, .agg (enc y).toArray] W fun e w' => e = .returned (.int .i64 (cf x y)) ∧ ∃ q os', w' = grow (W.drewN q) os')
    {d : Kd α} (hsz : d.sz = k) (hop : ∀ {w : World} {base : Nat} {ok : Nat → Prop} {x : α} {cs : List Value}, d.M w base ok x cs → cs = enc x) (hmk : ∀ (w : World) (base : Nat) (ok : Nat → Prop) (x : α), d.M w base ok x (enc x))
    (e : Nat) (P0_ : Nat → Prop) (u : Value) (l0 : List α) (w0 w : World) (hB : Below w0.heap.size w0 w) (ho0 : d.R e w w0.heap.size P0_ u l0) (hlen : l0.length < 4611686018427387904) (hT : ∀ x ∈ l0, ∀ y ∈ l0, ltOf cf x y = false → ltOf cf y x = false → x = y) :
    Calls P (ρ.f 6) #[u, .func (.func g) #[] #[]] w fun e' w' => e' = .returned (.tuple #[]) ∧ d.R e w' w0.heap.size (fun k_ => (P0_ k_ ∨ w.heap.size ≤ k_)) u (l0.mergeSort fun x y => !(ltOf cf) y x) ∧ Below w0.heap.size w0 w' ∧ Kept w w' (fun k_ => P0_ k_) := by
  have HO := OwnK.own_of_R (enc := enc) hsz hk hop ho0
  rcases HO.2 with ⟨rfl, h0⟩ | ⟨g1, cap, cur, rfl, hbase, hb, h2, h3, h4, h5⟩
  · have hl : l0 = [] := List.length_eq_zero_iff.1 h0
    subst hl
    refine (AnyF.slices_SortFunc_none L none 0 _ w).mono ?_
    rintro e' w' ⟨rfl, rfl⟩
    exact ⟨rfl, by simpa using Kd.R_mono ho0 (fun k hk => .inl hk), hB, Kept.refl _ _⟩
  · have hg : g1 < w.heap.size := (Array.getElem?_eq_some_iff.1 hb).1
    have hH := OwnK.holdsK_of_block (enc := enc) hk (xs := l0) hb h5
    have hc := AnyQ.slices_SortFunc L k aE zE enc hk h1 cf hO g #[] g1 0 cap l0.toArray w eg (fun m os dk _ x y => hcmp x y _) hH hg (by simpa using hlen)
    rw [show l0.toArray.size = l0.length by simp] at hc
    refine hc.mono ?_
    rintro e' w' ⟨rfl, d', n, os, hp, hs, rfl⟩
    have hd : d' = (l0.mergeSort fun x y => !(ltOf cf) y x).toArray := by
      rw [← sorted_on hO l0 hT d' (by simpa using hp) (by simpa using hs)]
    rw [hd]
    have hlen2 : (l0.mergeSort fun x y => !(ltOf cf) y x).length = l0.length := List.length_mergeSort _
    generalize (l0.mergeSort fun x y => !(ltOf cf) y x) = ts at hlen2 ⊢
    have hr := OwnK.grownBy_putF (w := w) (g := g1) (n := n) (os := os) (flatK enc k ts.toArray)
    have hsz2 : (flatK enc k ts.toArray).size = l0.length * k := by rw [size_flatK]; simp [hlen2]
    have ho := OwnK.owns_putF (enc := enc) hk (n := n) (os := os) (F := flatK enc k ts.toArray) (ts := ts) hbase hb (by rw [hlen2]; omega) h3 (by simpa using h4) (by rw [hsz2, h4]; exact Nat.mul_le_mul_right _ h2) (by rw [hlen2, hsz2]; exact Nat.le_refl _) (by
      rw [OwnK.flatK_list hk ts, List.take_of_length_le]
      rw [OwnK.flatMap_len hk]
      exact Nat.le_refl _)
    refine ⟨rfl, ?_, pw_below_grown hB (some g1) hB.size hr (fun k hk => by cases hk; exact hbase), Kept.of_grown hr (Kept.refl _ _) (fun k hk => .inl (by cases hk; exact ho0.1 g1 rfl))⟩
    have hR := OwnK.R_of_own (d := d) (ok := fun k_ => P0_ k_ ∨ w.heap.size ≤ k_) hsz hk hmk ho (fun k hk => .inl (by cases hk; exact ho0.1 g1 rfl))
    rw [hlen2] at hR
    exact hR
end Go.Proofs.Ytcnkacbgcmnokaa.OwnS
