-- Written by a program of the session: how the law's arguments are read, and the one pure statement.
import Derived.Test.YtgbiclpicofgmaaXT4
import Derived.Test.YtgbiclpicofgmaaOpen
namespace Go.Proofs.Ytgbiclpicofgmaa.fnExactTreeSize
set_option maxRecDepth 100000
open Go Go.RowKit Go.Proofs.Ytgbiclpicofgmaa.XT Go.Proofs.YtgbiclpicofgmaaW.PrintWords Go.Proofs.YtgbiclpicofgmaaW.PrintLast Go.Proofs.YtgbiclpicofgmaaW.PrintMore Go.Proofs.Ytgbiclpicofgmaa.Opn
set_option linter.unusedVariables false
def Wfi64 : Int → Prop := fun a => (Lit.int .i64 a).wf = true
theorem opens_i64_3 (w : World) (m : Nat) : Opens Try.prog w m 3 (Kd.int .i64) Wfi64 := opens_int Try.underlying3
def Wfstr : ByteArray → Prop := fun s => s.size ≤ maxLen
theorem opens_str_9 (w : World) (m : Nat) : Opens Try.prog w m 9 Kd.string Wfstr := opens_string Try.underlying9
def WfS23 : S23 → Prop := fun x => Wfi64 x.f0 ∧ Wfi64 x.f1 ∧ Wfstr x.f2
theorem opens_S23_23 (w : World) (m : Nat) : Opens Try.prog w m 23 k23 WfS23 := by
  intro H enc fuel cs x hm h
  obtain ⟨xs, n, rfl, rfl, hl, hlen, hf⟩ := DataW.trod_struct Try.underlying23 h
  rw [show Try.prog.cellsOf 23 = 3 by kernel_rfl] at hl
  have e0 := hf 0 _ rfl
  obtain ⟨y0, g0⟩ := field_at e0 hlen (by decide)
  obtain ⟨a0, b0, c0⟩ := opens_i64_3 w n enc n _ _ (Nat.le_refl n) g0
  replace b0 : (Kd.int .i64).K w a0 ((cs.drop 0).take 1) := by rw [← show Try.prog.cellsOf 3 = 1 by kernel_rfl]; exact b0
  have e1 := hf 1 _ rfl
  obtain ⟨y1, g1⟩ := field_at e1 hlen (by decide)
  obtain ⟨a1, b1, c1⟩ := opens_i64_3 w n enc n _ _ (Nat.le_refl n) g1
  replace b1 : (Kd.int .i64).K w a1 ((cs.drop 1).take 1) := by rw [← show Try.prog.cellsOf 3 = 1 by kernel_rfl]; exact b1
  have e2 := hf 2 _ rfl
  obtain ⟨y2, g2⟩ := field_at e2 hlen (by decide)
  obtain ⟨a2, b2, c2⟩ := opens_str_9 w n enc n _ _ (Nat.le_refl n) g2
  replace b2 : Kd.string.K w a2 ((cs.drop 2).take 1) := by rw [← show Try.prog.cellsOf 9 = 1 by kernel_rfl]; exact b2
  have b := pair_at rfl b0 (pair_at rfl b1 (last_at hl rfl b2))
  exact ⟨⟨a0, a1, a2⟩, b, ⟨c0, c1, c2⟩⟩
inductive WfS26 : S26 → Prop
  | mk (x : S26) : Wfi64 x.f0 → Wfi64 x.f1 → Wfstr x.f2 → Wfstr x.f3 → WfS23 x.f4 → x.f5.length ≤ maxLen → (∀ y ∈ x.f5, WfS26 y) → WfS26 x
theorem opens_S26_26 (w : World) (m : Nat) : Opens Try.prog w m 26 k26 WfS26 := by
  induction m with
  | zero => intro H enc fuel cs x hm h; obtain ⟨xs, n, rfl, rfl, hl, hlen, hf⟩ := DataW.trod_struct Try.underlying26 h; exact absurd hm (by omega)
  | succ m ihm =>
  intro H enc fuel cs x hm h
  obtain ⟨xs, n, rfl, rfl, hl, hlen, hf⟩ := DataW.trod_struct Try.underlying26 h
  rw [show Try.prog.cellsOf 26 = 8 by kernel_rfl] at hl
  have e0 := hf 0 _ rfl
  obtain ⟨y0, g0⟩ := field_at e0 hlen (by decide)
  obtain ⟨a0, b0, c0⟩ := opens_i64_3 w n enc n _ _ (Nat.le_refl n) g0
  replace b0 : (Kd.int .i64).K w a0 ((cs.drop 0).take 1) := by rw [← show Try.prog.cellsOf 3 = 1 by kernel_rfl]; exact b0
  have e1 := hf 1 _ rfl
  obtain ⟨y1, g1⟩ := field_at e1 hlen (by decide)
  obtain ⟨a1, b1, c1⟩ := opens_i64_3 w n enc n _ _ (Nat.le_refl n) g1
  replace b1 : (Kd.int .i64).K w a1 ((cs.drop 1).take 1) := by rw [← show Try.prog.cellsOf 3 = 1 by kernel_rfl]; exact b1
  have e2 := hf 2 _ rfl
  obtain ⟨y2, g2⟩ := field_at e2 hlen (by decide)
  obtain ⟨a2, b2, c2⟩ := opens_str_9 w n enc n _ _ (Nat.le_refl n) g2
  replace b2 : Kd.string.K w a2 ((cs.drop 2).take 1) := by rw [← show Try.prog.cellsOf 9 = 1 by kernel_rfl]; exact b2
  have e3 := hf 3 _ rfl
  obtain ⟨y3, g3⟩ := field_at e3 hlen (by decide)
  obtain ⟨a3, b3, c3⟩ := opens_str_9 w n enc n _ _ (Nat.le_refl n) g3
  replace b3 : Kd.string.K w a3 ((cs.drop 3).take 1) := by rw [← show Try.prog.cellsOf 9 = 1 by kernel_rfl]; exact b3
  have e4 := hf 4 _ rfl
  obtain ⟨y4, g4⟩ := field_at e4 hlen (by decide)
  obtain ⟨a4, b4, c4⟩ := opens_S23_23 w n enc n _ _ (Nat.le_refl n) g4
  replace b4 : k23.K w a4 ((cs.drop 4).take 3) := by rw [← show Try.prog.cellsOf 23 = 3 by kernel_rfl]; exact b4
  have o5 : Opens Try.prog w (m + 1) 24 (Kd.slice 26 k26) (fun l => l.length ≤ maxLen ∧ ∀ x ∈ l, WfS26 x) := opens_slice Try.underlying24 (by kernel_rfl) ihm
  have e5 := hf 5 _ rfl
  obtain ⟨y5, g5⟩ := field_at e5 hlen (by decide)
  obtain ⟨a5, b5, c5⟩ := o5 enc n _ _ (by omega) g5
  replace b5 : (Kd.slice 26 k26).K w a5 ((cs.drop 7).take 1) := by rw [← show Try.prog.cellsOf 24 = 1 by kernel_rfl]; exact b5
  have b : (F26 k26).K w (⟨a0, a1, a2, a3, a4, a5⟩ : S26) cs := pair_at rfl b0 (pair_at rfl b1 (pair_at rfl b2 (pair_at rfl b3 (pair_at rfl b4 (last_at hl rfl b5)))))
  obtain ⟨_, _, rfl, rfl, ⟨_, _, rfl, rfl, ⟨_, _, rfl, rfl, ⟨_, _, rfl, rfl, ⟨_, _, rfl, s4, ⟨A7, c7, rfl, l7, g7⟩⟩⟩⟩⟩⟩ := b
  obtain rfl := k23_open s4
  exact ⟨⟨a0, a1, a2, a3, a4, a5⟩, k26_mk w ⟨a0, a1, a2, a3, a4, a5⟩ l7 g7, WfS26.mk _ c0 c1 c2 c3 c4 c5.1 c5.2⟩
def Pure : Prop := ∀ (x0 : S26), WfS26 x0 → ∃ k, laws_FnExactTreeSize.f k (x0.f0) (x0.f1) (x0.f2) (x0.f3) (x0.f4.f0) (x0.f4.f1) (x0.f4.f2) (x0.f5) = some true
end Go.Proofs.Ytgbiclpicofgmaa.fnExactTreeSize
