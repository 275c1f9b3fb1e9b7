/- Every exported constant of the program has the value that the reference gives; no condition. -/
import Derived.Test.YtagdjkdnblpghaaXOpenFnExactConstants
namespace Go.Proofs.Ytagdjkdnblpghaa.fnExactConstants.Pure
open Go

theorem FnExactConstants : Pure := rfl

end Go.Proofs.Ytagdjkdnblpghaa.fnExactConstants.Pure
