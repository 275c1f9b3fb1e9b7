-- Written by a program of the session: how the law's arguments are read, and the one pure statement.
import Derived.Test.YtcefdpjlpjgaiaaXKHLawCompact
import Derived.Test.YtcefdpjlpjgaiaaOpen
namespace Go.Proofs.Ytcefdpjlpjgaiaa.fnExactCompact
set_option maxRecDepth 100000
open Go Go.RowKit Go.Proofs.Ytcefdpjlpjgaiaa.XK Go.Proofs.YtcefdpjlpjgaiaaW.PrintWords Go.Proofs.YtcefdpjlpjgaiaaW.PrintLast Go.Proofs.YtcefdpjlpjgaiaaW.PrintMore Go.Proofs.Ytcefdpjlpjgaiaa.Opn
set_option linter.unusedVariables false
def Wfbool : Bool → Prop := fun _ => True
theorem opens_bool_4 (w : World) (m : Nat) : Opens Try.prog w m 4 Kd.bool Wfbool := opens_bool Try.underlying4
def Wfstr : ByteArray → Prop := fun s => s.size ≤ maxLen
theorem opens_str_9 (w : World) (m : Nat) : Opens Try.prog w m 9 Kd.string Wfstr := opens_string Try.underlying9
def WfLstr : List ByteArray → Prop := fun l => l.length ≤ maxLen ∧ ∀ x ∈ l, Wfstr x
theorem opens_Lstr_53 (w : World) (m : Nat) : Opens Try.prog w m 53 (Kd.slice 9 Kd.string) WfLstr := opens_le (opens_slice Try.underlying53 (by kernel_rfl) (opens_str_9 w m)) (Nat.le_succ m)
def Wfi64 : Int → Prop := fun a => (Lit.int .i64 a).wf = true
theorem opens_i64_3 (w : World) (m : Nat) : Opens Try.prog w m 3 (Kd.int .i64) Wfi64 := opens_int Try.underlying3
def WfLi64 : List Int → Prop := fun l => l.length ≤ maxLen ∧ ∀ x ∈ l, Wfi64 x
theorem opens_Li64_25 (w : World) (m : Nat) : Opens Try.prog w m 25 (Kd.slice 3 (Kd.int .i64)) WfLi64 := opens_le (opens_slice Try.underlying25 (by kernel_rfl) (opens_i64_3 w m)) (Nat.le_succ m)
def WfS55 : S55 → Prop := fun x => Wfbool x.f0 ∧ WfLstr x.f1 ∧ WfLstr x.f2 ∧ WfLi64 x.f3
theorem opens_S55_55 (w : World) (m : Nat) : Opens Try.prog w m 55 k55 WfS55 := by
  intro H enc fuel cs x hm h
  obtain ⟨xs, n, rfl, rfl, hl, hlen, hf⟩ := DataW.trod_struct Try.underlying55 h
  rw [show Try.prog.cellsOf 55 = 4 by kernel_rfl] at hl
  have e0 := hf 0 _ rfl
  obtain ⟨y0, g0⟩ := field_at e0 hlen (by decide)
  obtain ⟨a0, b0, c0⟩ := opens_bool_4 w n enc n _ _ (Nat.le_refl n) g0
  replace b0 : Kd.bool.K w a0 ((cs.drop 0).take 1) := by rw [← show Try.prog.cellsOf 4 = 1 by kernel_rfl]; exact b0
  have e1 := hf 1 _ rfl
  obtain ⟨y1, g1⟩ := field_at e1 hlen (by decide)
  obtain ⟨a1, b1, c1⟩ := opens_Lstr_53 w n enc n _ _ (Nat.le_refl n) g1
  replace b1 : (Kd.slice 9 Kd.string).K w a1 ((cs.drop 1).take 1) := by rw [← show Try.prog.cellsOf 53 = 1 by kernel_rfl]; exact b1
  have e2 := hf 2 _ rfl
  obtain ⟨y2, g2⟩ := field_at e2 hlen (by decide)
  obtain ⟨a2, b2, c2⟩ := opens_Lstr_53 w n enc n _ _ (Nat.le_refl n) g2
  replace b2 : (Kd.slice 9 Kd.string).K w a2 ((cs.drop 2).take 1) := by rw [← show Try.prog.cellsOf 53 = 1 by kernel_rfl]; exact b2
  have e3 := hf 3 _ rfl
  obtain ⟨y3, g3⟩ := field_at e3 hlen (by decide)
  obtain ⟨a3, b3, c3⟩ := opens_Li64_25 w n enc n _ _ (Nat.le_refl n) g3
  replace b3 : (Kd.slice 3 (Kd.int .i64)).K w a3 ((cs.drop 3).take 1) := by rw [← show Try.prog.cellsOf 25 = 1 by kernel_rfl]; exact b3
  have b := pair_at rfl b0 (pair_at rfl b1 (pair_at rfl b2 (last_at hl rfl b3)))
  exact ⟨⟨a0, a1, a2, a3⟩, b, ⟨c0, c1, c2, c3⟩⟩
def WfLS55 : List (S55) → Prop := fun l => l.length ≤ maxLen ∧ ∀ x ∈ l, WfS55 x
theorem opens_LS55_22 (w : World) (m : Nat) : Opens Try.prog w m 22 (Kd.slice 55 k55) WfLS55 := opens_le (opens_slice Try.underlying22 (by kernel_rfl) (opens_S55_55 w m)) (Nat.le_succ m)
def WfS24 : S24 → Prop := fun x => WfLS55 x.f0
theorem opens_S24_24 (w : World) (m : Nat) : Opens Try.prog w m 24 k24 WfS24 := by
  intro H enc fuel cs x hm h
  obtain ⟨xs, n, rfl, rfl, hl, hlen, hf⟩ := DataW.trod_struct Try.underlying24 h
  rw [show Try.prog.cellsOf 24 = 1 by kernel_rfl] at hl
  have e0 := hf 0 _ rfl
  obtain ⟨y0, g0⟩ := field_at e0 hlen (by decide)
  obtain ⟨a0, b0, c0⟩ := opens_LS55_22 w n enc n _ _ (Nat.le_refl n) g0
  replace b0 : (Kd.slice 55 k55).K w a0 ((cs.drop 0).take 1) := by rw [← show Try.prog.cellsOf 22 = 1 by kernel_rfl]; exact b0
  have b := last_at hl rfl b0
  exact ⟨⟨a0⟩, b, c0⟩
def Pure : Prop := ∀ (x0 : S24) (l1 : List Int), WfS24 x0 → WfLi64 l1 → ∃ k, laws_FnExactCompact.f k (x0.f0) l1 = some true
end Go.Proofs.Ytcefdpjlpjgaiaa.fnExactCompact
