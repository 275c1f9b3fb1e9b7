-- Written by a program of the session: how the law's arguments are read, and the one pure statement.
import Derived.Test.YtmjbacnioncicaaXFHLawFnSectors
import Derived.Test.YtmjbacnioncicaaOpen
namespace Go.Proofs.Ytmjbacnioncicaa.fnSectors
set_option maxRecDepth 100000
open Go Go.RowKit Go.Proofs.Ytmjbacnioncicaa.XF Go.Proofs.YtmjbacnioncicaaW.PrintWords Go.Proofs.YtmjbacnioncicaaW.PrintLast Go.Proofs.YtmjbacnioncicaaW.PrintMore Go.Proofs.Ytmjbacnioncicaa.Opn
set_option linter.unusedVariables false
def Wfu8 : Int → Prop := fun a => (Lit.int .u8 a).wf = true
theorem opens_u8_5 (w : World) (m : Nat) : Opens Try.prog w m 5 (Kd.int .u8) Wfu8 := opens_int Try.underlying5
def WfLu8 : List Int → Prop := fun l => l.length ≤ maxLen ∧ ∀ x ∈ l, Wfu8 x
theorem opens_Lu8_22 (w : World) (m : Nat) : Opens Try.prog w m 22 (Kd.slice 5 (Kd.int .u8)) WfLu8 := opens_le (opens_slice Try.underlying22 (by kernel_rfl) (opens_u8_5 w m)) (Nat.le_succ m)
def Pure : Prop := ∀ (l0 : List Int) (l1 : List Int), WfLu8 l0 → WfLu8 l1 → ∃ k, laws_FnSectors.f k l0 l1 = some true
end Go.Proofs.Ytmjbacnioncicaa.fnSectors
