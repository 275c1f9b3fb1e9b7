-- Written by a program of the session: how the law's arguments are read, and the one pure statement.
import Derived.Test.YtlhmcdafnlcioaaXV8
import Derived.Test.YtlhmcdafnlcioaaOpen
namespace Go.Proofs.Ytlhmcdafnlcioaa.fnExactValueAt
set_option maxRecDepth 100000
open Go Go.RowKit Go.Proofs.Ytlhmcdafnlcioaa.XV Go.Proofs.YtlhmcdafnlcioaaW.PrintWords Go.Proofs.YtlhmcdafnlcioaaW.PrintLast Go.Proofs.YtlhmcdafnlcioaaW.PrintMore Go.Proofs.Ytlhmcdafnlcioaa.Opn
set_option linter.unusedVariables false
def Wfi64 : Int → Prop := fun a => (Lit.int .i64 a).wf = true
theorem opens_i64_3 (w : World) (m : Nat) : Opens Try.prog w m 3 (Kd.int .i64) Wfi64 := opens_int Try.underlying3
def Wfstr : ByteArray → Prop := fun s => s.size ≤ maxLen
theorem opens_str_9 (w : World) (m : Nat) : Opens Try.prog w m 9 Kd.string Wfstr := opens_string Try.underlying9
def WfS174 : S174 → Prop := fun x => Wfstr x.f0 ∧ Wfi64 x.f1 ∧ Wfi64 x.f2 ∧ Wfstr x.f3
theorem opens_S174_174 (w : World) (m : Nat) : Opens Try.prog w m 174 k174 WfS174 := by
  intro H enc fuel cs x hm h
  obtain ⟨xs, n, rfl, rfl, hl, hlen, hf⟩ := DataW.trod_struct Try.underlying174 h
  rw [show Try.prog.cellsOf 174 = 4 by kernel_rfl] at hl
  have e0 := hf 0 _ rfl
  obtain ⟨y0, g0⟩ := field_at e0 hlen (by decide)
  obtain ⟨a0, b0, c0⟩ := opens_str_9 w n enc n _ _ (Nat.le_refl n) g0
  replace b0 : Kd.string.K w a0 ((cs.drop 0).take 1) := by rw [← show Try.prog.cellsOf 9 = 1 by kernel_rfl]; exact b0
  have e1 := hf 1 _ rfl
  obtain ⟨y1, g1⟩ := field_at e1 hlen (by decide)
  obtain ⟨a1, b1, c1⟩ := opens_i64_3 w n enc n _ _ (Nat.le_refl n) g1
  replace b1 : (Kd.int .i64).K w a1 ((cs.drop 1).take 1) := by rw [← show Try.prog.cellsOf 3 = 1 by kernel_rfl]; exact b1
  have e2 := hf 2 _ rfl
  obtain ⟨y2, g2⟩ := field_at e2 hlen (by decide)
  obtain ⟨a2, b2, c2⟩ := opens_i64_3 w n enc n _ _ (Nat.le_refl n) g2
  replace b2 : (Kd.int .i64).K w a2 ((cs.drop 2).take 1) := by rw [← show Try.prog.cellsOf 3 = 1 by kernel_rfl]; exact b2
  have e3 := hf 3 _ rfl
  obtain ⟨y3, g3⟩ := field_at e3 hlen (by decide)
  obtain ⟨a3, b3, c3⟩ := opens_str_9 w n enc n _ _ (Nat.le_refl n) g3
  replace b3 : Kd.string.K w a3 ((cs.drop 3).take 1) := by rw [← show Try.prog.cellsOf 9 = 1 by kernel_rfl]; exact b3
  have b := pair_at rfl b0 (pair_at rfl b1 (pair_at rfl b2 (last_at hl rfl b3)))
  exact ⟨⟨a0, a1, a2, a3⟩, b, ⟨c0, c1, c2, c3⟩⟩
def WfLS174 : List (S174) → Prop := fun l => l.length ≤ maxLen ∧ ∀ x ∈ l, WfS174 x
theorem opens_LS174_30 (w : World) (m : Nat) : Opens Try.prog w m 30 (Kd.slice 174 k174) WfLS174 := opens_le (opens_slice Try.underlying30 (by kernel_rfl) (opens_S174_174 w m)) (Nat.le_succ m)
def Wfbool : Bool → Prop := fun _ => True
theorem opens_bool_4 (w : World) (m : Nat) : Opens Try.prog w m 4 Kd.bool Wfbool := opens_bool Try.underlying4
def WfS222 : S222 → Prop := fun x => Wfstr x.f0 ∧ Wfstr x.f1 ∧ Wfbool x.f2
theorem opens_S222_222 (w : World) (m : Nat) : Opens Try.prog w m 222 k222 WfS222 := by
  intro H enc fuel cs x hm h
  obtain ⟨xs, n, rfl, rfl, hl, hlen, hf⟩ := DataW.trod_struct Try.underlying222 h
  rw [show Try.prog.cellsOf 222 = 3 by kernel_rfl] at hl
  have e0 := hf 0 _ rfl
  obtain ⟨y0, g0⟩ := field_at e0 hlen (by decide)
  obtain ⟨a0, b0, c0⟩ := opens_str_9 w n enc n _ _ (Nat.le_refl n) g0
  replace b0 : Kd.string.K w a0 ((cs.drop 0).take 1) := by rw [← show Try.prog.cellsOf 9 = 1 by kernel_rfl]; exact b0
  have e1 := hf 1 _ rfl
  obtain ⟨y1, g1⟩ := field_at e1 hlen (by decide)
  obtain ⟨a1, b1, c1⟩ := opens_str_9 w n enc n _ _ (Nat.le_refl n) g1
  replace b1 : Kd.string.K w a1 ((cs.drop 1).take 1) := by rw [← show Try.prog.cellsOf 9 = 1 by kernel_rfl]; exact b1
  have e2 := hf 2 _ rfl
  obtain ⟨y2, g2⟩ := field_at e2 hlen (by decide)
  obtain ⟨a2, b2, c2⟩ := opens_bool_4 w n enc n _ _ (Nat.le_refl n) g2
  replace b2 : Kd.bool.K w a2 ((cs.drop 2).take 1) := by rw [← show Try.prog.cellsOf 4 = 1 by kernel_rfl]; exact b2
  have b := pair_at rfl b0 (pair_at rfl b1 (last_at hl rfl b2))
  exact ⟨⟨a0, a1, a2⟩, b, ⟨c0, c1, c2⟩⟩
def WfLS222 : List (S222) → Prop := fun l => l.length ≤ maxLen ∧ ∀ x ∈ l, WfS222 x
theorem opens_LS222_176 (w : World) (m : Nat) : Opens Try.prog w m 176 (Kd.slice 222 k222) WfLS222 := opens_le (opens_slice Try.underlying176 (by kernel_rfl) (opens_S222_222 w m)) (Nat.le_succ m)
def WfS178 : S178 → Prop := fun x => Wfbool x.f0 ∧ Wfi64 x.f1 ∧ WfLS222 x.f2
theorem opens_S178_178 (w : World) (m : Nat) : Opens Try.prog w m 178 k178 WfS178 := by
  intro H enc fuel cs x hm h
  obtain ⟨xs, n, rfl, rfl, hl, hlen, hf⟩ := DataW.trod_struct Try.underlying178 h
  rw [show Try.prog.cellsOf 178 = 3 by kernel_rfl] at hl
  have e0 := hf 0 _ rfl
  obtain ⟨y0, g0⟩ := field_at e0 hlen (by decide)
  obtain ⟨a0, b0, c0⟩ := opens_bool_4 w n enc n _ _ (Nat.le_refl n) g0
  replace b0 : Kd.bool.K w a0 ((cs.drop 0).take 1) := by rw [← show Try.prog.cellsOf 4 = 1 by kernel_rfl]; exact b0
  have e1 := hf 1 _ rfl
  obtain ⟨y1, g1⟩ := field_at e1 hlen (by decide)
  obtain ⟨a1, b1, c1⟩ := opens_i64_3 w n enc n _ _ (Nat.le_refl n) g1
  replace b1 : (Kd.int .i64).K w a1 ((cs.drop 1).take 1) := by rw [← show Try.prog.cellsOf 3 = 1 by kernel_rfl]; exact b1
  have e2 := hf 2 _ rfl
  obtain ⟨y2, g2⟩ := field_at e2 hlen (by decide)
  obtain ⟨a2, b2, c2⟩ := opens_LS222_176 w n enc n _ _ (Nat.le_refl n) g2
  replace b2 : (Kd.slice 222 k222).K w a2 ((cs.drop 2).take 1) := by rw [← show Try.prog.cellsOf 176 = 1 by kernel_rfl]; exact b2
  have b := pair_at rfl b0 (pair_at rfl b1 (last_at hl rfl b2))
  exact ⟨⟨a0, a1, a2⟩, b, ⟨c0, c1, c2⟩⟩
def WfLS178 : List (S178) → Prop := fun l => l.length ≤ maxLen ∧ ∀ x ∈ l, WfS178 x
theorem opens_LS178_31 (w : World) (m : Nat) : Opens Try.prog w m 31 (Kd.slice 178 k178) WfLS178 := opens_le (opens_slice Try.underlying31 (by kernel_rfl) (opens_S178_178 w m)) (Nat.le_succ m)
def WfS33 : S33 → Prop := fun x => Wfi64 x.f0 ∧ WfLS174 x.f1 ∧ WfLS178 x.f2
theorem opens_S33_33 (w : World) (m : Nat) : Opens Try.prog w m 33 k33 WfS33 := by
  intro H enc fuel cs x hm h
  obtain ⟨xs, n, rfl, rfl, hl, hlen, hf⟩ := DataW.trod_struct Try.underlying33 h
  rw [show Try.prog.cellsOf 33 = 3 by kernel_rfl] at hl
  have e0 := hf 0 _ rfl
  obtain ⟨y0, g0⟩ := field_at e0 hlen (by decide)
  obtain ⟨a0, b0, c0⟩ := opens_i64_3 w n enc n _ _ (Nat.le_refl n) g0
  replace b0 : (Kd.int .i64).K w a0 ((cs.drop 0).take 1) := by rw [← show Try.prog.cellsOf 3 = 1 by kernel_rfl]; exact b0
  have e1 := hf 1 _ rfl
  obtain ⟨y1, g1⟩ := field_at e1 hlen (by decide)
  obtain ⟨a1, b1, c1⟩ := opens_LS174_30 w n enc n _ _ (Nat.le_refl n) g1
  replace b1 : (Kd.slice 174 k174).K w a1 ((cs.drop 1).take 1) := by rw [← show Try.prog.cellsOf 30 = 1 by kernel_rfl]; exact b1
  have e2 := hf 2 _ rfl
  obtain ⟨y2, g2⟩ := field_at e2 hlen (by decide)
  obtain ⟨a2, b2, c2⟩ := opens_LS178_31 w n enc n _ _ (Nat.le_refl n) g2
  replace b2 : (Kd.slice 178 k178).K w a2 ((cs.drop 2).take 1) := by rw [← show Try.prog.cellsOf 31 = 1 by kernel_rfl]; exact b2
  have b := pair_at rfl b0 (pair_at rfl b1 (last_at hl rfl b2))
  exact ⟨⟨a0, a1, a2⟩, b, ⟨c0, c1, c2⟩⟩
def Pure : Prop := ∀ (x0 : S33) (a1 : Int) (a2 : ByteArray), WfS33 x0 → (Lit.int .i64 a1).wf = true → a2.size ≤ 140737488351232 → ∃ k, laws_FnExactValueAt.f k (x0.f0) (x0.f1) (x0.f2) a1 a2 = some true
end Go.Proofs.Ytlhmcdafnlcioaa.fnExactValueAt
