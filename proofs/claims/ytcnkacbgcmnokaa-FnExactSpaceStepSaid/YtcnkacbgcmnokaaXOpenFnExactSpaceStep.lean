-- Written by a program of the session: how the law's arguments are read, and the one pure statement.
import Derived.Test.YtcnkacbgcmnokaaXAHLawSpaceStep
import Derived.Test.YtcnkacbgcmnokaaOpen
namespace Go.Proofs.Ytcnkacbgcmnokaa.fnExactSpaceStep
set_option maxRecDepth 100000
open Go Go.RowKit Go.Proofs.Ytcnkacbgcmnokaa.XA Go.Proofs.YtcnkacbgcmnokaaW.PrintWords Go.Proofs.YtcnkacbgcmnokaaW.PrintLast Go.Proofs.YtcnkacbgcmnokaaW.PrintMore Go.Proofs.Ytcnkacbgcmnokaa.Opn
set_option linter.unusedVariables false
def Wfi64 : Int → Prop := fun a => (Lit.int .i64 a).wf = true
theorem opens_i64_3 (w : World) (m : Nat) : Opens Try.prog w m 3 (Kd.int .i64) Wfi64 := opens_int Try.underlying3
def WfLi64 : List Int → Prop := fun l => l.length ≤ maxLen ∧ ∀ x ∈ l, Wfi64 x
theorem opens_Li64_22 (w : World) (m : Nat) : Opens Try.prog w m 22 (Kd.slice 3 (Kd.int .i64)) WfLi64 := opens_le (opens_slice Try.underlying22 (by kernel_rfl) (opens_i64_3 w m)) (Nat.le_succ m)
def WfS77 : S77 → Prop := fun x => Wfi64 x.f0 ∧ Wfi64 x.f1
theorem opens_S77_77 (w : World) (m : Nat) : Opens Try.prog w m 77 k77 WfS77 := by
  intro H enc fuel cs x hm h
  obtain ⟨xs, n, rfl, rfl, hl, hlen, hf⟩ := DataW.trod_struct Try.underlying77 h
  rw [show Try.prog.cellsOf 77 = 2 by kernel_rfl] at hl
  have e0 := hf 0 _ rfl
  obtain ⟨y0, g0⟩ := field_at e0 hlen (by decide)
  obtain ⟨a0, b0, c0⟩ := opens_i64_3 w n enc n _ _ (Nat.le_refl n) g0
  replace b0 : (Kd.int .i64).K w a0 ((cs.drop 0).take 1) := by rw [← show Try.prog.cellsOf 3 = 1 by kernel_rfl]; exact b0
  have e1 := hf 1 _ rfl
  obtain ⟨y1, g1⟩ := field_at e1 hlen (by decide)
  obtain ⟨a1, b1, c1⟩ := opens_i64_3 w n enc n _ _ (Nat.le_refl n) g1
  replace b1 : (Kd.int .i64).K w a1 ((cs.drop 1).take 1) := by rw [← show Try.prog.cellsOf 3 = 1 by kernel_rfl]; exact b1
  have b := pair_at rfl b0 (last_at hl rfl b1)
  exact ⟨⟨a0, a1⟩, b, ⟨c0, c1⟩⟩
def WfLS77 : List (S77) → Prop := fun l => l.length ≤ maxLen ∧ ∀ x ∈ l, WfS77 x
theorem opens_LS77_23 (w : World) (m : Nat) : Opens Try.prog w m 23 (Kd.slice 77 k77) WfLS77 := opens_le (opens_slice Try.underlying23 (by kernel_rfl) (opens_S77_77 w m)) (Nat.le_succ m)
def WfS25 : S25 → Prop := fun x => Wfi64 x.f0 ∧ Wfi64 x.f1 ∧ WfLi64 x.f2 ∧ WfLS77 x.f3 ∧ WfLi64 x.f4
theorem opens_S25_25 (w : World) (m : Nat) : Opens Try.prog w m 25 k25 WfS25 := by
  intro H enc fuel cs x hm h
  obtain ⟨xs, n, rfl, rfl, hl, hlen, hf⟩ := DataW.trod_struct Try.underlying25 h
  rw [show Try.prog.cellsOf 25 = 5 by kernel_rfl] at hl
  have e0 := hf 0 _ rfl
  obtain ⟨y0, g0⟩ := field_at e0 hlen (by decide)
  obtain ⟨a0, b0, c0⟩ := opens_i64_3 w n enc n _ _ (Nat.le_refl n) g0
  replace b0 : (Kd.int .i64).K w a0 ((cs.drop 0).take 1) := by rw [← show Try.prog.cellsOf 3 = 1 by kernel_rfl]; exact b0
  have e1 := hf 1 _ rfl
  obtain ⟨y1, g1⟩ := field_at e1 hlen (by decide)
  obtain ⟨a1, b1, c1⟩ := opens_i64_3 w n enc n _ _ (Nat.le_refl n) g1
  replace b1 : (Kd.int .i64).K w a1 ((cs.drop 1).take 1) := by rw [← show Try.prog.cellsOf 3 = 1 by kernel_rfl]; exact b1
  have e2 := hf 2 _ rfl
  obtain ⟨y2, g2⟩ := field_at e2 hlen (by decide)
  obtain ⟨a2, b2, c2⟩ := opens_Li64_22 w n enc n _ _ (Nat.le_refl n) g2
  replace b2 : (Kd.slice 3 (Kd.int .i64)).K w a2 ((cs.drop 2).take 1) := by rw [← show Try.prog.cellsOf 22 = 1 by kernel_rfl]; exact b2
  have e3 := hf 3 _ rfl
  obtain ⟨y3, g3⟩ := field_at e3 hlen (by decide)
  obtain ⟨a3, b3, c3⟩ := opens_LS77_23 w n enc n _ _ (Nat.le_refl n) g3
  replace b3 : (Kd.slice 77 k77).K w a3 ((cs.drop 3).take 1) := by rw [← show Try.prog.cellsOf 23 = 1 by kernel_rfl]; exact b3
  have e4 := hf 4 _ rfl
  obtain ⟨y4, g4⟩ := field_at e4 hlen (by decide)
  obtain ⟨a4, b4, c4⟩ := opens_Li64_22 w n enc n _ _ (Nat.le_refl n) g4
  replace b4 : (Kd.slice 3 (Kd.int .i64)).K w a4 ((cs.drop 4).take 1) := by rw [← show Try.prog.cellsOf 22 = 1 by kernel_rfl]; exact b4
  have b := pair_at rfl b0 (pair_at rfl b1 (pair_at rfl b2 (pair_at rfl b3 (last_at hl rfl b4))))
  exact ⟨⟨a0, a1, a2, a3, a4⟩, b, ⟨c0, c1, c2, c3, c4⟩⟩
def WfS27 : S27 → Prop := fun x => Wfi64 x.f0 ∧ Wfi64 x.f1
theorem opens_S27_27 (w : World) (m : Nat) : Opens Try.prog w m 27 k27 WfS27 := by
  intro H enc fuel cs x hm h
  obtain ⟨xs, n, rfl, rfl, hl, hlen, hf⟩ := DataW.trod_struct Try.underlying27 h
  rw [show Try.prog.cellsOf 27 = 2 by kernel_rfl] at hl
  have e0 := hf 0 _ rfl
  obtain ⟨y0, g0⟩ := field_at e0 hlen (by decide)
  obtain ⟨a0, b0, c0⟩ := opens_i64_3 w n enc n _ _ (Nat.le_refl n) g0
  replace b0 : (Kd.int .i64).K w a0 ((cs.drop 0).take 1) := by rw [← show Try.prog.cellsOf 3 = 1 by kernel_rfl]; exact b0
  have e1 := hf 1 _ rfl
  obtain ⟨y1, g1⟩ := field_at e1 hlen (by decide)
  obtain ⟨a1, b1, c1⟩ := opens_i64_3 w n enc n _ _ (Nat.le_refl n) g1
  replace b1 : (Kd.int .i64).K w a1 ((cs.drop 1).take 1) := by rw [← show Try.prog.cellsOf 3 = 1 by kernel_rfl]; exact b1
  have b := pair_at rfl b0 (last_at hl rfl b1)
  exact ⟨⟨a0, a1⟩, b, ⟨c0, c1⟩⟩
def Pure : Prop := ∀ (x0 : S25) (x1 : S27), WfS25 x0 → WfS27 x1 → ∃ k, laws_FnExactSpaceStep.f k (x0.f0) (x0.f1) (x0.f2) (x0.f3) (x0.f4) (x1.f0) (x1.f1) = some true
end Go.Proofs.Ytcnkacbgcmnokaa.fnExactSpaceStep
