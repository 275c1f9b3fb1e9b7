/- Small plain lemmas of the session for the pure statements; no condition. -/
import Derived.Test.YtcefdpjlpjgaiaaXtra
import Derived.Test.YtcefdpjlpjgaiaaWWords
namespace Go.Proofs.Ytcefdpjlpjgaiaa.Aid
open Go Go.RowKit Go.Proofs.YtcefdpjlpjgaiaaW.PrintWords

theorem wrap_id {x : Int} (h : -9223372036854775808 ≤ x) (h' : x ≤ 9223372036854775807) : wrap64 x = x := by
  unfold wrap64
  omega
theorem w1 : wrap64 1 = 1 := wrap_id (by omega) (by omega)
theorem w2 : wrap64 2 = 2 := wrap_id (by omega) (by omega)
theorem w3 : wrap64 3 = 3 := wrap_id (by omega) (by omega)
theorem w4 : wrap64 4 = 4 := wrap_id (by omega) (by omega)
theorem wn1 : wrap64 (-1) = -1 := wrap_id (by omega) (by omega)
theorem wf64 {x : Int} (h : (Lit.int .i64 x).wf = true) : -9223372036854775808 ≤ x ∧ x ≤ 9223372036854775807 := by
  simp [Lit.wf, IntKind.min, IntKind.max, IntKind.signed, IntKind.bits] at h
  omega
end Go.Proofs.Ytcefdpjlpjgaiaa.Aid
