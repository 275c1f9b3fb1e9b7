/- What the laws over tied variables ask of the world: what package-level variables of the library hold; kept by every function that leaves old blocks alone. -/
import Derived.Test.YtnhfhafbdbmkpaaDoorProg
import Derived.Lib.LaidTab
import Derived.Lib.ItoaNum
import Derived.Below
import Derived.KernelRfl
namespace Go.Proofs.YtnhfhafbdbmkpaaDoor.Glob
open Go Go.RowKit Go.Proofs

/-- bytealg.MaxLen holds some int. -/
def GM (w : World) : Prop := ∃ m, w.cell? ⟨0, 0, none⟩ = some (.int .i64 m)
/-- and strconv's powers of ten are as its text lays them. -/
def GT (w : World) : Prop := GM w ∧ Lib.TabIs Tryd.prog w "internal/strconv.uint64pow10" .u64 Lib.pow10Tab
/-- and strconv's two errors are there. -/
def GE (w : World) : Prop := GT w ∧ (∃ t p, w.cell? ⟨3, 0, none⟩ = some (.iface t p)) ∧ (∃ t p, w.cell? ⟨4, 0, none⟩ = some (.iface t p))

theorem lt_of_cell {w : World} {g : Nat} {v : Value} (h : w.cell? ⟨g, 0, none⟩ = some v) : g < w.heap.size := World.block_lt_of_cell? _ _ h
theorem cell_below {w w1 : World} {g : Nat} {v : Value} (hb : Below w.heap.size w w1) (h : w.cell? ⟨g, 0, none⟩ = some v) : w1.cell? ⟨g, 0, none⟩ = some v := by
  rw [hb.cell (p := ⟨g, 0, none⟩) (lt_of_cell h)]
  exact h
theorem var_below {P : Program} {w w1 : World} {n : String} {cs : Array Value} (hb : Below w.heap.size w w1) (h : w.var? P n = some cs) : w1.var? P n = some cs := by
  unfold World.var? at h ⊢
  cases hg : P.globalNamed n with
  | none => simp [hg] at h
  | some g =>
    simp only [hg, Option.bind_some] at h ⊢
    have hlt : g < w.heap.size := by
      rcases Nat.lt_or_ge g w.heap.size with h' | h'
      · exact h'
      · simp [Array.getElem?_eq_none h'] at h
    rw [hb.block g hlt]
    exact h
theorem GM.below {w w1 : World} (h : GM w) (hb : Below w.heap.size w w1) : GM w1 := by
  obtain ⟨m, hm⟩ := h
  exact ⟨m, cell_below hb hm⟩
theorem GT.below {w w1 : World} (h : GT w) (hb : Below w.heap.size w w1) : GT w1 := ⟨h.1.below hb, var_below hb h.2⟩
theorem GE.below {w w1 : World} (h : GE w) (hb : Below w.heap.size w w1) : GE w1 := by
  obtain ⟨h1, ⟨t, p, h2⟩, t', p', h3⟩ := h
  exact ⟨h1.below hb, ⟨t, p, cell_below hb h2⟩, t', p', cell_below hb h3⟩
theorem GM.m {w : World} (h : GM w) : GM w := h
theorem GT.m {w : World} (h : GT w) : GM w := h.1
theorem GE.m {w : World} (h : GE w) : GM w := h.1.1
theorem GT.t {w : World} (h : GT w) : GT w := h
theorem GE.t {w : World} (h : GE w) : GT w := h.1
end Go.Proofs.YtnhfhafbdbmkpaaDoor.Glob
