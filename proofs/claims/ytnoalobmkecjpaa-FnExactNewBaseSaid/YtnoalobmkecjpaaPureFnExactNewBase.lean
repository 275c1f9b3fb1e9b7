/- The program's NewBase is what the reference's is, also behind a write into what was handed back; no condition. -/
import Derived.Test.YtnoalobmkecjpaaXOpenFnExactNewBase
namespace Go.Proofs.Ytnoalobmkecjpaa.fnExactNewBase.Pure
open Go Go.RowKit Go.Proofs.Ytnoalobmkecjpaa.XN

theorem FnExactNewBase : Pure := rfl

end Go.Proofs.Ytnoalobmkecjpaa.fnExactNewBase.Pure
