-- Written by a program of the session (wip/xprint.py), out of the translation. Lean checks it.
import Derived.Test.YtnhfhafbdbmkpaaDoorProg
import Derived.Below
import Derived.Deep.Draws
import Derived.Deep.AppendLies
import Derived.Maps.AppendAt
import Derived.OwnWalk
import Derived.Laws.BytesArg
import Derived.Laws.MakeOwn
import Derived.Laws.OwnMore
import Derived.Deep.OwnRows
import Derived.Tactics
import Derived.Lib.ConvBytes
import Derived.Laws.Slices
import Derived.WalkKit
import Derived.KernelRfl
import Derived.RowKit3
import Derived.Deep.LoopGhost
import Derived.Deep.QuietTactic
import Derived.BigQuiet
import Derived.WideLaws
import Derived.Deep.DeepCutAuto
import Derived.Deep.CutBlock
import Derived.Deep.RegionHeld3
import Derived.Laws.Rows
import Derived.Lib.AppendStr
import Derived.ArgAppend
import Derived.Laws.IdiomCopy
import Derived.OrdersHeld
import Derived.Laws.BitsLemmas
import Derived.RowKit
import Derived.Test.YtnhfhafbdbmkpaaDoorWWords
import Derived.Test.YtnhfhafbdbmkpaaDoorWLast
import Derived.Test.YtnhfhafbdbmkpaaDoorWTab
import Derived.Test.YtnhfhafbdbmkpaaDoorWFour
import Derived.Test.YtnhfhafbdbmkpaaDoorWQPut
import Derived.Test.YtnhfhafbdbmkpaaDoorWApart
import Derived.Test.YtnhfhafbdbmkpaaDoorWArr
import Derived.Test.YtnhfhafbdbmkpaaDoorWZeros
import Derived.Test.YtnhfhafbdbmkpaaDoorWFoot
import Derived.Test.YtnhfhafbdbmkpaaDoorWKept
import Derived.Test.YtnhfhafbdbmkpaaDoorWShare
import Derived.Test.YtnhfhafbdbmkpaaDoorWN
import Derived.Test.YtnhfhafbdbmkpaaDoorWFootNe
import Derived.Test.YtnhfhafbdbmkpaaDoorWAt
import Derived.Test.YtnhfhafbdbmkpaaDoorWEqStruct
import Derived.Test.YtnhfhafbdbmkpaaDoorWRepsOne
import Derived.Test.YtnhfhafbdbmkpaaDoorWInv
import Derived.Test.YtnhfhafbdbmkpaaDoorWInvWords
import Derived.Test.YtnhfhafbdbmkpaaDoorWGuard
import Derived.Test.YtnhfhafbdbmkpaaDoorWNEv
import Derived.Test.YtnhfhafbdbmkpaaDoorWMore
import Derived.Test.YtnhfhafbdbmkpaaDoorXtra
import Derived.Test.YtnhfhafbdbmkpaaDoorGlob
import Derived.Test.YtnhfhafbdbmkpaaDoorMake0
namespace Go.Proofs.YtnhfhafbdbmkpaaDoor.XV
open Go.RowKit Go.Proofs.YtnhfhafbdbmkpaaDoorW.PrintWords Go.Proofs.YtnhfhafbdbmkpaaDoorW.PrintLast Go.Proofs.YtnhfhafbdbmkpaaDoorW.PrintMore
attribute [local go_sem] max2_int min2_int max_two min_two max_three min_three max_four min_four Go.Proofs.YtnhfhafbdbmkpaaDoor.Xtra.binOp_gtr Go.Proofs.YtnhfhafbdbmkpaaDoor.Xtra.binOp_leq Go.Proofs.YtnhfhafbdbmkpaaDoor.Xtra.binOp_geq   -- for this text's walks alone
set_option linter.unusedVariables false
set_option linter.unusedSimpArgs false



def errW : Option Int → Value
  | none => .nilIface
  | some c => .iface 0 (.int .i64 c)
theorem errW_none : errW none = .nilIface := rfl
theorem errW_some (c : Int) : errW (some c) = .iface 0 (.int .i64 c) := rfl

theorem info5 : (Tryd.prog.info? 5).map (fun i => (i.zero, i.size, i.bytes)) = some (some (.int .u8 0), 1, 1) := by kernel_rfl
-- the values' own types

end Go.Proofs.YtnhfhafbdbmkpaaDoor.XV
