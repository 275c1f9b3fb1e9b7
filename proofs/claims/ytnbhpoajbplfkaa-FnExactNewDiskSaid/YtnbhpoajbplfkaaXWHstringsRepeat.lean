-- Written for this claim: a contract of one function, proved by hand; the places of its template filled by a program.
import Derived.Test.YtnbhpoajbplfkaaXW0
import Derived.Test.YtnbhpoajbplfkaaShelf
namespace Go.Proofs.Ytnbhpoajbplfkaa.XW
open Go Go.RowKit Go.Proofs.YtnbhpoajbplfkaaW.PrintWords Go.Proofs.YtnbhpoajbplfkaaW.PrintLast Go.Proofs.YtnbhpoajbplfkaaW.PrintMore
set_option linter.unusedVariables false
set_option linter.unusedSimpArgs false
def strings_Repeat.f (a0 : ByteArray) (a1 : Int) : Option ByteArray := if a1 < 0 then none else if 1000 < a1 then none else if 1000 < a0.size then none else some ⟨(Lib.repeatL a0.data.toList a1.toNat).toArray⟩
theorem strings_Repeat.calls (a0 : ByteArray) (a1 : Int) (r : ByteArray) (w : World) (h : strings_Repeat.f a0 a1 = some r) :
    Calls Try.prog 23 #[.string a0, .int .i64 a1] w fun e w' => e = .returned (.string r) ∧ Below w.heap.size w w' := by
  unfold strings_Repeat.f at h
  by_cases h1 : a1 < 0
  · rw [if_pos h1] at h
    exact absurd h (by simp)
  rw [if_neg h1] at h
  by_cases h2 : 1000 < a1
  · rw [if_pos h2] at h
    exact absurd h (by simp)
  rw [if_neg h2] at h
  by_cases h3 : 1000 < a0.size
  · rw [if_pos h3] at h
    exact absurd h (by simp)
  rw [if_neg h3] at h
  obtain rfl := Option.some.inj h
  obtain ⟨c, rfl⟩ : ∃ c : Nat, a1 = (c : Int) := ⟨a1.toNat, by omega⟩
  rw [Int.toNat_natCast]
  have hc : c ≤ 1000 := by omega
  exact Try.strings_Repeat a0 c w (by omega) (Nat.le_trans (Nat.mul_le_mul (Nat.le_of_not_lt h3) hc) (by decide))

end Go.Proofs.Ytnbhpoajbplfkaa.XW
