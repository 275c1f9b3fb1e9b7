-- Written for this claim: a contract of one function, proved by hand; the places of its template filled by a program.
import Derived.Test.YtnoalobmkecjpaaXY0
import Derived.Sort.OwnSortedInts
import Derived.Test.YtnoalobmkecjpaaShelf
namespace Go.Proofs.Ytnoalobmkecjpaa.XY
open Go Go.RowKit Go.Proofs.YtnoalobmkecjpaaW.PrintWords Go.Proofs.YtnoalobmkecjpaaW.PrintLast Go.Proofs.YtnoalobmkecjpaaW.PrintMore
set_option linter.unusedVariables false
set_option linter.unusedSimpArgs false
open Go.Sort
/-- What is left. -/
def slices_Delete_int_int.f (l0 : List Int) (a1 a2 : Int) : Option (List Int) := if 0 ≤ a1 ∧ a1 ≤ a2 ∧ a2 ≤ (l0.length : Int) then some (l0.take a1.toNat ++ l0.drop a2.toNat) else none
theorem slices_Delete_int_int.calls (P0_ : Nat → Prop) (u : Value) (l0 : List Int) (a1 a2 : Int) (r : List Int) (w0 w : World) (hB : Below w0.heap.size w0 w) (ho0 : Kd.R (Kd.int .i64) 3 w w0.heap.size P0_ u l0) (h : slices_Delete_int_int.f l0 a1 a2 = some r) :
    Calls Try.prog 76 #[u, .int .i64 a1, .int .i64 a2] w fun e w' => ∃ v, e = .returned v ∧ Kd.R (Kd.int .i64) 3 w' w0.heap.size P0_ v r ∧ Below w0.heap.size w0 w' ∧ Kept w w' P0_ := by
  unfold slices_Delete_int_int.f at h
  by_cases hc : 0 ≤ a1 ∧ a1 ≤ a2 ∧ a2 ≤ (l0.length : Int)
  rotate_left
  · rw [if_neg hc] at h
    cases h
  rw [if_pos hc] at h
  obtain rfl := Option.some.inj h
  clear h
  obtain ⟨h0, h1, h2⟩ := hc
  obtain ⟨i, rfl⟩ : ∃ i : Nat, a1 = (i : Int) := ⟨a1.toNat, by omega⟩
  obtain ⟨j, rfl⟩ : ∃ j : Nat, a2 = (j : Int) := ⟨a2.toNat, by omega⟩
  rw [Int.toNat_natCast, Int.toNat_natCast]
  have HO : w.ownsRow w0.heap.size 3 1 u l0.length (encs (Value.int .i64) l0) := Kd.own_of_R (h1 := fun _ => rfl) ho0
  rcases HO.2 with ⟨rfl, hn⟩ | ⟨g, cap, cur, rfl, hbase, hb, k1, k2, k3, k4⟩
  · have hl : l0 = [] := List.length_eq_zero_iff.1 hn
    subst hl
    obtain rfl : j = 0 := by simpa using h2
    obtain rfl : i = 0 := by omega
    refine (Try.slices_Delete_int_empty none 0 w).mono ?_
    rintro e w' ⟨rfl, rfl⟩
    exact ⟨_, rfl, by simpa using ho0, hB, Kept.refl _ _⟩
  · have hg : g < w.heap.size := (Array.getElem?_eq_some_iff.1 hb).1
    have hcap : cap ≤ 9223372036854775807 := by simpa [maxLen] using k2
    have hd := Try.slices_Delete_int g 0 cap i j l0 w (holds_of_blockI hb (by simpa [encs] using k4)) k1 hcap (by omega) (by omega)
    refine hd.mono ?_
    rintro e w' ⟨rfl, n, rfl⟩
    obtain ⟨ts, hts⟩ : ∃ ts : List Int, ts = l0.take i ++ l0.drop j ++ List.replicate (j - i) 0 := ⟨_, rfl⟩
    have hlen : ts.length = l0.length := by rw [hts]; simp; omega
    have htk : ts.take (l0.length - (j - i)) = l0.take i ++ l0.drop j := by
      rw [hts, List.take_append_of_le_length (by simp; omega), List.take_of_length_le (by simp; omega)]
    rw [← hts]
    have hgr : ∀ W : World, grow W #[] = W := fun W => by simp [grow]
    have hr := grownBy_sortedI (w := w) (g := g) (n := n) (os := #[]) ts.toArray
    have ho := ownsRow_sortedI (n := n) (os := #[]) (ts := ts) hlen hbase hb k1 k2 (by simpa using k3)
    rw [hgr] at hr ho
    refine ⟨_, rfl, ?_, pw_below_grown hB (some g) hB.size hr (fun k hk => by cases hk; exact hbase), Kept.of_grown hr (Kept.refl _ _) (fun k hk => .inl (by cases hk; exact ho0.1 g rfl))⟩
    have hR := Kd.R_of_own (h1 := fun _ => rfl) (by rw [hlen]; exact ho) (fun k hk => ho0.1 k hk)
    have hT := Kd.R_take (m := l0.length - (j - i)) hR (by omega)
    rw [htk] at hT
    exact hT

end Go.Proofs.Ytnoalobmkecjpaa.XY
