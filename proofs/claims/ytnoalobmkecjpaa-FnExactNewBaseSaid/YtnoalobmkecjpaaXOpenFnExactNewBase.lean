-- Written by a program of the session: how the law's arguments are read, and the one pure statement.
import Derived.Test.YtnoalobmkecjpaaXNHLawNewBase
import Derived.Test.YtnoalobmkecjpaaOpen
namespace Go.Proofs.Ytnoalobmkecjpaa.fnExactNewBase
set_option maxRecDepth 100000
open Go Go.RowKit Go.Proofs.Ytnoalobmkecjpaa.XN Go.Proofs.YtnoalobmkecjpaaW.PrintWords Go.Proofs.YtnoalobmkecjpaaW.PrintLast Go.Proofs.YtnoalobmkecjpaaW.PrintMore Go.Proofs.Ytnoalobmkecjpaa.Opn
set_option linter.unusedVariables false
def Pure : Prop := laws_FnExactNewBase.f = some true
end Go.Proofs.Ytnoalobmkecjpaa.fnExactNewBase
