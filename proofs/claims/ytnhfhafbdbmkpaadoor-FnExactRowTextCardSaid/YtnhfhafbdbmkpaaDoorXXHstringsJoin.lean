-- Written for this claim: a contract of one function, proved by hand; the places of its template filled by a program.
import Derived.Test.YtnhfhafbdbmkpaaDoorXX0
import Derived.Test.YtnhfhafbdbmkpaaDoorShelf
namespace Go.Proofs.YtnhfhafbdbmkpaaDoor.XX
open Go Go.RowKit Go.Proofs.YtnhfhafbdbmkpaaDoorW.PrintWords Go.Proofs.YtnhfhafbdbmkpaaDoorW.PrintLast Go.Proofs.YtnhfhafbdbmkpaaDoorW.PrintMore
set_option linter.unusedVariables false
set_option linter.unusedSimpArgs false
def strings_Join.f (l0 : List ByteArray) (a1 : ByteArray) : Option ByteArray := if l0.length ≤ 140737488355328 ∧ (Lib.join (l0.map (·.data.toList)) a1.data.toList).length ≤ 140737488355328 then some ⟨(Lib.join (l0.map (·.data.toList)) a1.data.toList).toArray⟩ else none
theorem strings_Join.calls (A0 : Option Addr) (c0 : Nat) (l0 : List ByteArray) (a1 : ByteArray) (r : ByteArray) (w : World) (hr0 : Kd.C Kd.string w A0 l0.length l0) (hc0 : l0.length ≤ c0) (h : strings_Join.f l0 a1 = some r) :
    Calls Tryd.prog 41 #[.slice A0 l0.length c0, .string a1] w fun e w' => e = .returned (.string r) ∧ Below w.heap.size w w' := by
  unfold strings_Join.f at h
  obtain ⟨⟨h1, h2⟩, h⟩ := Option.ite_none_right_eq_some.1 h
  obtain rfl := Option.some.inj h
  by_cases hl : l0 = []
  · subst hl
    exact (Tryd.strings_Join_none A0 c0 a1 w).mono fun e w' ⟨he, hw⟩ => ⟨he, hw ▸ Below.refl _ _⟩
  · obtain ⟨⟨bk, o, sp⟩, rfl, hcs⟩ := hr0.2.2 (List.length_pos_iff.mpr hl)
    have cell : ∀ (j : Nat) x, l0[j]? = some x → w.cell? ((⟨bk, o, sp⟩ : Addr).add j) = some (.string x) := fun j x hx => by
      obtain ⟨c, _, hr, hc⟩ := hcs j x hx
      have hr' : c = [.string x] := hr
      have := hc 0 (.string x) (by rw [hr']; rfl)
      have e : j * (Kd.string).sz + 0 = j := by show j * 1 + 0 = j; omega
      rwa [e] at this
    obtain ⟨x0, hx0⟩ : ∃ x, l0[0]? = some x := by
      cases l0 with
      | nil => exact absurd rfl hl
      | cons x xs => exact ⟨x, rfl⟩
    have h0 := cell 0 x0 hx0
    obtain rfl : sp = none := by
      have e0 : (⟨bk, o, sp⟩ : Addr).add 0 = ⟨bk, o, sp⟩ := rfl
      rw [e0] at h0
      unfold World.cell? at h0
      cases sp with
      | none => rfl
      | some z => split at h0 <;> simp at h0
    have hadd : ∀ j, (⟨bk, o, none⟩ : Addr).add j = ⟨bk, o + j, none⟩ := fun j => by unfold Addr.add; split <;> simp_all
    exact Tryd.strings_Join bk o c0 l0 a1 w (fun j x hx => by rw [← hadd j]; exact cell j x hx) (World.block_lt_of_cell? _ _ (by rw [hadd 0] at h0; exact h0)) h1 hc0 h2

end Go.Proofs.YtnhfhafbdbmkpaaDoor.XX
