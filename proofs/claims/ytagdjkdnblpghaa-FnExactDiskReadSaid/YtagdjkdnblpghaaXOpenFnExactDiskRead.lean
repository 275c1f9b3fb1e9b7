-- Written by a program of the session: how the law's arguments are read, and the one pure statement.
import Derived.Test.YtagdjkdnblpghaaXD5
import Derived.Test.YtagdjkdnblpghaaOpen
namespace Go.Proofs.Ytagdjkdnblpghaa.fnExactDiskRead
set_option maxRecDepth 100000
open Go Go.RowKit Go.Proofs.Ytagdjkdnblpghaa.XD Go.Proofs.YtagdjkdnblpghaaW.PrintWords Go.Proofs.YtagdjkdnblpghaaW.PrintLast Go.Proofs.YtagdjkdnblpghaaW.PrintMore Go.Proofs.Ytagdjkdnblpghaa.Opn
set_option linter.unusedVariables false
def Wfstr : ByteArray → Prop := fun s => s.size ≤ maxLen
theorem opens_str_9 (w : World) (m : Nat) : Opens Try.prog w m 9 Kd.string Wfstr := opens_string Try.underlying9
def WfLstr : List ByteArray → Prop := fun l => l.length ≤ maxLen ∧ ∀ x ∈ l, Wfstr x
theorem opens_Lstr_31 (w : World) (m : Nat) : Opens Try.prog w m 31 (Kd.slice 9 Kd.string) WfLstr := opens_le (opens_slice Try.underlying31 (by kernel_rfl) (opens_str_9 w m)) (Nat.le_succ m)
def Wfi64 : Int → Prop := fun a => (Lit.int .i64 a).wf = true
theorem opens_i64_3 (w : World) (m : Nat) : Opens Try.prog w m 3 (Kd.int .i64) Wfi64 := opens_int Try.underlying3
def WfS126 : S126 → Prop := fun x => Wfi64 x.f0 ∧ Wfstr x.f1
theorem opens_S126_126 (w : World) (m : Nat) : Opens Try.prog w m 126 k126 WfS126 := by
  intro H enc fuel cs x hm h
  obtain ⟨xs, n, rfl, rfl, hl, hlen, hf⟩ := DataW.trod_struct Try.underlying126 h
  rw [show Try.prog.cellsOf 126 = 2 by kernel_rfl] at hl
  have e0 := hf 0 _ rfl
  obtain ⟨y0, g0⟩ := field_at e0 hlen (by decide)
  obtain ⟨a0, b0, c0⟩ := opens_i64_3 w n enc n _ _ (Nat.le_refl n) g0
  replace b0 : (Kd.int .i64).K w a0 ((cs.drop 0).take 1) := by rw [← show Try.prog.cellsOf 3 = 1 by kernel_rfl]; exact b0
  have e1 := hf 1 _ rfl
  obtain ⟨y1, g1⟩ := field_at e1 hlen (by decide)
  obtain ⟨a1, b1, c1⟩ := opens_str_9 w n enc n _ _ (Nat.le_refl n) g1
  replace b1 : Kd.string.K w a1 ((cs.drop 1).take 1) := by rw [← show Try.prog.cellsOf 9 = 1 by kernel_rfl]; exact b1
  have b := pair_at rfl b0 (last_at hl rfl b1)
  exact ⟨⟨a0, a1⟩, b, ⟨c0, c1⟩⟩
def WfLS126 : List (S126) → Prop := fun l => l.length ≤ maxLen ∧ ∀ x ∈ l, WfS126 x
theorem opens_LS126_32 (w : World) (m : Nat) : Opens Try.prog w m 32 (Kd.slice 126 k126) WfLS126 := opens_le (opens_slice Try.underlying32 (by kernel_rfl) (opens_S126_126 w m)) (Nat.le_succ m)
def WfS34 : S34 → Prop := fun x => WfLstr x.f0 ∧ WfLS126 x.f1
theorem opens_S34_34 (w : World) (m : Nat) : Opens Try.prog w m 34 k34 WfS34 := by
  intro H enc fuel cs x hm h
  obtain ⟨xs, n, rfl, rfl, hl, hlen, hf⟩ := DataW.trod_struct Try.underlying34 h
  rw [show Try.prog.cellsOf 34 = 2 by kernel_rfl] at hl
  have e0 := hf 0 _ rfl
  obtain ⟨y0, g0⟩ := field_at e0 hlen (by decide)
  obtain ⟨a0, b0, c0⟩ := opens_Lstr_31 w n enc n _ _ (Nat.le_refl n) g0
  replace b0 : (Kd.slice 9 Kd.string).K w a0 ((cs.drop 0).take 1) := by rw [← show Try.prog.cellsOf 31 = 1 by kernel_rfl]; exact b0
  have e1 := hf 1 _ rfl
  obtain ⟨y1, g1⟩ := field_at e1 hlen (by decide)
  obtain ⟨a1, b1, c1⟩ := opens_LS126_32 w n enc n _ _ (Nat.le_refl n) g1
  replace b1 : (Kd.slice 126 k126).K w a1 ((cs.drop 1).take 1) := by rw [← show Try.prog.cellsOf 32 = 1 by kernel_rfl]; exact b1
  have b := pair_at rfl b0 (last_at hl rfl b1)
  exact ⟨⟨a0, a1⟩, b, ⟨c0, c1⟩⟩
def Pure : Prop := ∀ (x0 : S34) (a1 : Int), WfS34 x0 → (Lit.int .i64 a1).wf = true → ∃ k, laws_FnExactDiskRead.f k (x0.f0) (x0.f1) a1 = some true
end Go.Proofs.Ytagdjkdnblpghaa.fnExactDiskRead
