-- Written by a program of the session: how the law's arguments are read, and the one pure statement.
import Derived.Test.YtagdjkdnblpghaaXConstHConstants
import Derived.Test.YtagdjkdnblpghaaOpen
namespace Go.Proofs.Ytagdjkdnblpghaa.fnExactConstants
open Go Go.RowKit Go.Proofs.Ytagdjkdnblpghaa.XConst Go.Proofs.YtagdjkdnblpghaaW.PrintWords Go.Proofs.YtagdjkdnblpghaaW.PrintLast Go.Proofs.YtagdjkdnblpghaaW.PrintMore Go.Proofs.Ytagdjkdnblpghaa.Opn
set_option linter.unusedVariables false
def Pure : Prop := laws_FnExactConstants.f = some true
end Go.Proofs.Ytagdjkdnblpghaa.fnExactConstants
