-- Written by a program of the session: how the law's arguments are read, and the one pure statement.
import Derived.Test.YtnoalobmkecjpaaXS5
import Derived.Test.YtnoalobmkecjpaaOpen
namespace Go.Proofs.Ytnoalobmkecjpaa.fnExactSerialOrder
set_option maxRecDepth 100000
open Go Go.RowKit Go.Proofs.Ytnoalobmkecjpaa.XS Go.Proofs.YtnoalobmkecjpaaW.PrintWords Go.Proofs.YtnoalobmkecjpaaW.PrintLast Go.Proofs.YtnoalobmkecjpaaW.PrintMore Go.Proofs.Ytnoalobmkecjpaa.Opn
set_option linter.unusedVariables false
def Wfi64 : Int → Prop := fun a => (Lit.int .i64 a).wf = true
theorem opens_i64_3 (w : World) (m : Nat) : Opens Try.prog w m 3 (Kd.int .i64) Wfi64 := opens_int Try.underlying3
def WfLi64 : List Int → Prop := fun l => l.length ≤ maxLen ∧ ∀ x ∈ l, Wfi64 x
theorem opens_Li64_51 (w : World) (m : Nat) : Opens Try.prog w m 51 (Kd.slice 3 (Kd.int .i64)) WfLi64 := opens_le (opens_slice Try.underlying51 (by kernel_rfl) (opens_i64_3 w m)) (Nat.le_succ m)
def WfS108 : S108 → Prop := fun x => Wfi64 x.f0 ∧ Wfi64 x.f1
theorem opens_S108_108 (w : World) (m : Nat) : Opens Try.prog w m 108 k108 WfS108 := by
  intro H enc fuel cs x hm h
  obtain ⟨xs, n, rfl, rfl, hl, hlen, hf⟩ := DataW.trod_struct Try.underlying108 h
  rw [show Try.prog.cellsOf 108 = 2 by kernel_rfl] at hl
  have e0 := hf 0 _ rfl
  obtain ⟨y0, g0⟩ := field_at e0 hlen (by decide)
  obtain ⟨a0, b0, c0⟩ := opens_i64_3 w n enc n _ _ (Nat.le_refl n) g0
  replace b0 : (Kd.int .i64).K w a0 ((cs.drop 0).take 1) := by rw [← show Try.prog.cellsOf 3 = 1 by kernel_rfl]; exact b0
  have e1 := hf 1 _ rfl
  obtain ⟨y1, g1⟩ := field_at e1 hlen (by decide)
  obtain ⟨a1, b1, c1⟩ := opens_i64_3 w n enc n _ _ (Nat.le_refl n) g1
  replace b1 : (Kd.int .i64).K w a1 ((cs.drop 1).take 1) := by rw [← show Try.prog.cellsOf 3 = 1 by kernel_rfl]; exact b1
  have b := pair_at rfl b0 (last_at hl rfl b1)
  exact ⟨⟨a0, a1⟩, b, ⟨c0, c1⟩⟩
def WfLS108 : List (S108) → Prop := fun l => l.length ≤ maxLen ∧ ∀ x ∈ l, WfS108 x
theorem opens_LS108_62 (w : World) (m : Nat) : Opens Try.prog w m 62 (Kd.slice 108 k108) WfLS108 := opens_le (opens_slice Try.underlying62 (by kernel_rfl) (opens_S108_108 w m)) (Nat.le_succ m)
def Pure : Prop := ∀ (l0 : List Int) (l1 : List (S108)), WfLi64 l0 → WfLS108 l1 → ∃ k, laws_FnExactSerialOrder.f k l0 l1 = some true
end Go.Proofs.Ytnoalobmkecjpaa.fnExactSerialOrder
