-- Written for this claim: a contract of one function, proved by hand; the places of its template filled by a program.
import Derived.Test.YtnhfhafbdbmkpaaDoorXV0
import Derived.Test.YtnhfhafbdbmkpaaDoorShelf
import Derived.Test.YtnhfhafbdbmkpaaDoorGlob
namespace Go.Proofs.YtnhfhafbdbmkpaaDoor.XV
open Go Go.RowKit Go.Proofs.YtnhfhafbdbmkpaaDoorW.PrintWords Go.Proofs.YtnhfhafbdbmkpaaDoorW.PrintLast Go.Proofs.YtnhfhafbdbmkpaaDoorW.PrintMore
set_option linter.unusedVariables false
set_option linter.unusedSimpArgs false
def strings_ReplaceAll.f (a0 a1 a2 : ByteArray) : Option ByteArray := if 1 ≤ a1.size ∧ a0.size < 4294967281 ∧ a0.size + Lib.countB a0 a1 * a2.size ≤ 140737488355328 then some ⟨(Lib.replaceAll a0.data.toList a1.data.toList a2.data.toList).toArray⟩ else none
theorem strings_ReplaceAll.calls (a0 a1 a2 : ByteArray) (r : ByteArray) (w : World) (hG : Go.Proofs.YtnhfhafbdbmkpaaDoor.Glob.GE w) (h : strings_ReplaceAll.f a0 a1 a2 = some r) :
    Calls Tryd.prog 52 #[.string a0, .string a1, .string a2] w fun e w' => e = .returned (.string r) ∧ Below w.heap.size w w' := by
  unfold strings_ReplaceAll.f at h
  obtain ⟨⟨h1, h2, h3⟩, h⟩ := Option.ite_none_right_eq_some.1 h
  obtain rfl := Option.some.inj h
  obtain ⟨m, hm⟩ := hG.m
  exact Tryd.strings_ReplaceAll a0 a1 a2 m w h2 hm h1 h3

end Go.Proofs.YtnhfhafbdbmkpaaDoor.XV
