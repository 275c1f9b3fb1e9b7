-- Written by a program of the session: how the law's arguments are read, and the one pure statement.
import Derived.Test.YtcnkacbgcmnokaaXRHLawSpaceRun
import Derived.Test.YtcnkacbgcmnokaaOpen
namespace Go.Proofs.Ytcnkacbgcmnokaa.fnExactSpaceRun
set_option maxRecDepth 100000
open Go Go.RowKit Go.Proofs.Ytcnkacbgcmnokaa.XR Go.Proofs.YtcnkacbgcmnokaaW.PrintWords Go.Proofs.YtcnkacbgcmnokaaW.PrintLast Go.Proofs.YtcnkacbgcmnokaaW.PrintMore Go.Proofs.Ytcnkacbgcmnokaa.Opn
set_option linter.unusedVariables false
def Wfi64 : Int → Prop := fun a => (Lit.int .i64 a).wf = true
theorem opens_i64_3 (w : World) (m : Nat) : Opens Try.prog w m 3 (Kd.int .i64) Wfi64 := opens_int Try.underlying3
def WfS27 : S27 → Prop := fun x => Wfi64 x.f0 ∧ Wfi64 x.f1
theorem opens_S27_27 (w : World) (m : Nat) : Opens Try.prog w m 27 k27 WfS27 := by
  intro H enc fuel cs x hm h
  obtain ⟨xs, n, rfl, rfl, hl, hlen, hf⟩ := DataW.trod_struct Try.underlying27 h
  rw [show Try.prog.cellsOf 27 = 2 by kernel_rfl] at hl
  have e0 := hf 0 _ rfl
  obtain ⟨y0, g0⟩ := field_at e0 hlen (by decide)
  obtain ⟨a0, b0, c0⟩ := opens_i64_3 w n enc n _ _ (Nat.le_refl n) g0
  replace b0 : (Kd.int .i64).K w a0 ((cs.drop 0).take 1) := by rw [← show Try.prog.cellsOf 3 = 1 by kernel_rfl]; exact b0
  have e1 := hf 1 _ rfl
  obtain ⟨y1, g1⟩ := field_at e1 hlen (by decide)
  obtain ⟨a1, b1, c1⟩ := opens_i64_3 w n enc n _ _ (Nat.le_refl n) g1
  replace b1 : (Kd.int .i64).K w a1 ((cs.drop 1).take 1) := by rw [← show Try.prog.cellsOf 3 = 1 by kernel_rfl]; exact b1
  have b := pair_at rfl b0 (last_at hl rfl b1)
  exact ⟨⟨a0, a1⟩, b, ⟨c0, c1⟩⟩
def WfLS27 : List (S27) → Prop := fun l => l.length ≤ maxLen ∧ ∀ x ∈ l, WfS27 x
theorem opens_LS27_44 (w : World) (m : Nat) : Opens Try.prog w m 44 (Kd.slice 27 k27) WfLS27 := opens_le (opens_slice Try.underlying44 (by kernel_rfl) (opens_S27_27 w m)) (Nat.le_succ m)
def Pure : Prop := ∀ (a0 : Int) (l1 : List (S27)), (Lit.int .i64 a0).wf = true → WfLS27 l1 → ∃ k, laws_FnExactSpaceRun.f k a0 l1 = some true
end Go.Proofs.Ytcnkacbgcmnokaa.fnExactSpaceRun
