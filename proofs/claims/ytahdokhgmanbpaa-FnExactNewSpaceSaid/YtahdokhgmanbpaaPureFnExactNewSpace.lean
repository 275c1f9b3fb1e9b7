/- For every whole number the program's NewSpace answers what the reference's NewSpace answers, in every field, and what it answers shares no memory; no condition. -/
import Derived.Test.YtahdokhgmanbpaaPFnExactNewSpacex3
namespace Go.Proofs.Ytahdokhgmanbpaa.Pure
open Go.RowKit Go.Proofs.Ytahdokhgmanbpaa.PFnExactNewSpace Go.Proofs.YtahdokhgmanbpaaW.PrintWords Go.Proofs.YtahdokhgmanbpaaW.PrintLast

theorem within_is (n : Int) : impl_within.f n 1 64 = some (decide (1 ≤ n ∧ n ≤ 64)) := by
  unfold impl_within.f
  by_cases h : n ≥ 1
  · rw [if_pos h]
    by_cases h' : n ≤ 64 <;> simp [h']
    omega
  · rw [if_neg h, decide_eq_false (by omega)]
theorem in_is (n : Int) : spec_l01In.f n 1 64 = some (decide (1 ≤ n ∧ n ≤ 64)) := within_is n

theorem FnExactNewSpace : laws_FnExactNewSpace.Pure := by
  intro n _
  refine ⟨4, ?_⟩
  unfold laws_FnExactNewSpace.f spec_NewSpace.f impl_NewSpace.f
  rw [within_is, in_is]
  by_cases h : 1 ≤ n ∧ n ≤ 64
  · simp [h, laws_FnExactNewSpace.j0, laws_FnExactNewSpace.j1, impl_NewSpace.f, within_is, laws_eqSpace.f, laws_eqIntS.f, laws_eqIntS.l0, laws_eqHeldS.f, laws_eqHeldS.l0, laws_markSpace.f, laws_markIntS.f, laws_markIntS.l0, laws_markHeldS.f, laws_markHeldS.l0, laws_heldSpace.f, laws_heldIntS.f, laws_heldIntS.l0, laws_heldHeldS.f, laws_heldHeldS.l0]
  · simp [h, laws_FnExactNewSpace.j0, laws_FnExactNewSpace.j1, impl_NewSpace.f, within_is, laws_eqSpace.f, laws_eqIntS.f, laws_eqIntS.l0, laws_eqHeldS.f, laws_eqHeldS.l0, laws_markSpace.f, laws_markIntS.f, laws_markIntS.l0, laws_markHeldS.f, laws_markHeldS.l0, laws_heldSpace.f, laws_heldIntS.f, laws_heldIntS.l0, laws_heldHeldS.f, laws_heldHeldS.l0]

end Go.Proofs.Ytahdokhgmanbpaa.Pure
