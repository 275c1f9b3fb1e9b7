-- Written by a program of the session: how the law's arguments are read, and the one pure statement.
import Derived.Test.YtopajfpfjfbjcaaXP13
import Derived.Test.YtopajfpfjfbjcaaOpen
namespace Go.Proofs.Ytopajfpfjfbjcaa.fnExactPlayHistory
set_option maxRecDepth 100000
open Go Go.RowKit Go.Proofs.Ytopajfpfjfbjcaa.XP Go.Proofs.YtopajfpfjfbjcaaW.PrintWords Go.Proofs.YtopajfpfjfbjcaaW.PrintLast Go.Proofs.YtopajfpfjfbjcaaW.PrintMore Go.Proofs.Ytopajfpfjfbjcaa.Opn
set_option linter.unusedVariables false
def Wfi64 : Int → Prop := fun a => (Lit.int .i64 a).wf = true
theorem opens_i64_3 (w : World) (m : Nat) : Opens Try.prog w m 3 (Kd.int .i64) Wfi64 := opens_int Try.underlying3
def Wfstr : ByteArray → Prop := fun s => s.size ≤ maxLen
theorem opens_str_9 (w : World) (m : Nat) : Opens Try.prog w m 9 Kd.string Wfstr := opens_string Try.underlying9
def WfS44 : S44 → Prop := fun x => Wfi64 x.f0 ∧ Wfi64 x.f1 ∧ Wfstr x.f2 ∧ Wfstr x.f3
theorem opens_S44_44 (w : World) (m : Nat) : Opens Try.prog w m 44 k44 WfS44 := by
  intro H enc fuel cs x hm h
  obtain ⟨xs, n, rfl, rfl, hl, hlen, hf⟩ := DataW.trod_struct Try.underlying44 h
  rw [show Try.prog.cellsOf 44 = 4 by kernel_rfl] at hl
  have e0 := hf 0 _ rfl
  obtain ⟨y0, g0⟩ := field_at e0 hlen (by decide)
  obtain ⟨a0, b0, c0⟩ := opens_i64_3 w n enc n _ _ (Nat.le_refl n) g0
  replace b0 : (Kd.int .i64).K w a0 ((cs.drop 0).take 1) := by rw [← show Try.prog.cellsOf 3 = 1 by kernel_rfl]; exact b0
  have e1 := hf 1 _ rfl
  obtain ⟨y1, g1⟩ := field_at e1 hlen (by decide)
  obtain ⟨a1, b1, c1⟩ := opens_i64_3 w n enc n _ _ (Nat.le_refl n) g1
  replace b1 : (Kd.int .i64).K w a1 ((cs.drop 1).take 1) := by rw [← show Try.prog.cellsOf 3 = 1 by kernel_rfl]; exact b1
  have e2 := hf 2 _ rfl
  obtain ⟨y2, g2⟩ := field_at e2 hlen (by decide)
  obtain ⟨a2, b2, c2⟩ := opens_str_9 w n enc n _ _ (Nat.le_refl n) g2
  replace b2 : Kd.string.K w a2 ((cs.drop 2).take 1) := by rw [← show Try.prog.cellsOf 9 = 1 by kernel_rfl]; exact b2
  have e3 := hf 3 _ rfl
  obtain ⟨y3, g3⟩ := field_at e3 hlen (by decide)
  obtain ⟨a3, b3, c3⟩ := opens_str_9 w n enc n _ _ (Nat.le_refl n) g3
  replace b3 : Kd.string.K w a3 ((cs.drop 3).take 1) := by rw [← show Try.prog.cellsOf 9 = 1 by kernel_rfl]; exact b3
  have b := pair_at rfl b0 (pair_at rfl b1 (pair_at rfl b2 (last_at hl rfl b3)))
  exact ⟨⟨a0, a1, a2, a3⟩, b, ⟨c0, c1, c2, c3⟩⟩
def WfLS44 : List (S44) → Prop := fun l => l.length ≤ maxLen ∧ ∀ x ∈ l, WfS44 x
theorem opens_LS44_22 (w : World) (m : Nat) : Opens Try.prog w m 22 (Kd.slice 44 k44) WfLS44 := opens_le (opens_slice Try.underlying22 (by kernel_rfl) (opens_S44_44 w m)) (Nat.le_succ m)
def Pure : Prop := ∀ (l0 : List (S44)), WfLS44 l0 → ∃ k, laws_FnExactPlayHistory.f k l0 = some true
end Go.Proofs.Ytopajfpfjfbjcaa.fnExactPlayHistory
