/-
  NARROWER THAN 'FOR EVERY INPUT', by the rows' own cells (each row's printed sentence says how): FnExactTreeSize: loops.
  DERIVED. THE GIVEN ROWS OF THIS SEAT. 12 by the template 'for every input the law returns true; each argument reads behind the call as it read before'; 0 by the template 'total and deterministic' (their statements: YtlhmcdafnlcioaaTotals.lean).
  GIVEN WITH THE SEED: the statements are not yours to turn. If you find one false, say at which input.
  Laid BY PROGRAM, IN A SANDBOX (cutbox-rows.mjs): the forced cells as the released guide's own fill.sh prints them over the translation e04631db4dfa58aa… (all of the seat's roots in one cut). By AI agents, Wed Nov 11 2026. No macro, syntax, notation, axiom, sorry.
-/
import Derived.Test.YtlhmcdafnlcioaaChecked
import GoSem.Claim
import GoSem.ClaimJoined
import GoSem.ClaimMapViews
import Derived.JoinedTies
import Derived.KernelRfl
namespace Go.Proofs.Ytlhmcdafnlcioaa
/- THE CELL 'sum', in the pinned program and in every row, IS THE sha256 OF THE DUMP (.gsa) THAT YtlhmcdafnlcioaaProg.lean LOADS. Nothing in Lean hashes anything: it is a label: what it is worth is what the hold of that sum in a sandbox is worth. -/
noncomputable def Try.pinned : Pinned := { name := "ytlhmcdafnlcioaa", sum := "e04631db4dfa58aa81d0f986fa95dbe0da446158bac00ac2bacc647194a879ce", checked := Try.checked }
namespace Rows
def none {H : Type} : Left H := { results := [], args := [] }

/-- 'laws.FnExactNewBase': WHATEVER THE INPUT: true; the input reads as it did. -/
def fnExactNewBaseSpec : ChangeSpec := { name := "fnExactNewBase", fn := fun _ => fun
  | [] => { results := [.lit (.bool true)], args := [] }
  | _ => none }
def fnExactNewBaseRow : OpenClaim := { program := "ytlhmcdafnlcioaa", sum := "e04631db4dfa58aa81d0f986fa95dbe0da446158bac00ac2bacc647194a879ce", func := "loop.example/g00208/laws.FnExactNewBase", spec := "fnExactNewBase", apart := false }
def FnExactNewBaseSaid : Prop := fnExactNewBaseRow.holds Try.pinned (OpenSpec.ofChange fnExactNewBaseSpec)

/-- ITS FALSE NEIGHBOUR: 'it returns false'. Refute it at one input. -/
def fnExactNewBaseWrong : ChangeSpec := { name := "fnExactNewBase", fn := fun _ => fun
  | [] => { results := [.lit (.bool false)], args := [] }
  | _ => none }
def FnExactNewBaseWrongFalsely : Prop := fnExactNewBaseRow.holds Try.pinned (OpenSpec.ofChange fnExactNewBaseWrong)

/-- 'laws.FnExactBaseOK': WHATEVER THE INPUT: true; the input reads as it did. -/
def fnExactBaseOKSpec : ChangeSpec := { name := "fnExactBaseOK", fn := fun _ => fun
  | [d] => { results := [.lit (.bool true)], args := [d] }
  | _ => none }
def fnExactBaseOKRow : OpenClaim := { program := "ytlhmcdafnlcioaa", sum := "e04631db4dfa58aa81d0f986fa95dbe0da446158bac00ac2bacc647194a879ce", func := "loop.example/g00208/laws.FnExactBaseOK", spec := "fnExactBaseOK", unfollowed := true, recurses := true, apart := false }
def FnExactBaseOKSaid : Prop := fnExactBaseOKRow.holds Try.pinned (OpenSpec.ofChange fnExactBaseOKSpec)

/-- ITS FALSE NEIGHBOUR: 'it returns false'. Refute it at one input. -/
def fnExactBaseOKWrong : ChangeSpec := { name := "fnExactBaseOK", fn := fun _ => fun
  | [d] => { results := [.lit (.bool false)], args := [d] }
  | _ => none }
def FnExactBaseOKWrongFalsely : Prop := fnExactBaseOKRow.holds Try.pinned (OpenSpec.ofChange fnExactBaseOKWrong)

/-- 'laws.FnExactHorizon': WHATEVER THE INPUT: true; the input reads as it did. -/
def fnExactHorizonSpec : ChangeSpec := { name := "fnExactHorizon", fn := fun _ => fun
  | [d] => { results := [.lit (.bool true)], args := [d] }
  | _ => none }
def fnExactHorizonRow : OpenClaim := { program := "ytlhmcdafnlcioaa", sum := "e04631db4dfa58aa81d0f986fa95dbe0da446158bac00ac2bacc647194a879ce", func := "loop.example/g00208/laws.FnExactHorizon", spec := "fnExactHorizon", unfollowed := true, recurses := true, apart := false }
def FnExactHorizonSaid : Prop := fnExactHorizonRow.holds Try.pinned (OpenSpec.ofChange fnExactHorizonSpec)

/-- ITS FALSE NEIGHBOUR: 'it returns false'. Refute it at one input. -/
def fnExactHorizonWrong : ChangeSpec := { name := "fnExactHorizon", fn := fun _ => fun
  | [d] => { results := [.lit (.bool false)], args := [d] }
  | _ => none }
def FnExactHorizonWrongFalsely : Prop := fnExactHorizonRow.holds Try.pinned (OpenSpec.ofChange fnExactHorizonWrong)

/-- 'laws.FnExactValueAt': WHATEVER THE INPUT: true; the input reads as it did. -/
def fnExactValueAtSpec : ChangeSpec := { name := "fnExactValueAt", fn := fun _ => fun
  | [d1, d2, d3] => { results := [.lit (.bool true)], args := [d1, d2, d3] }
  | _ => none }
def fnExactValueAtRow : OpenClaim := { program := "ytlhmcdafnlcioaa", sum := "e04631db4dfa58aa81d0f986fa95dbe0da446158bac00ac2bacc647194a879ce", func := "loop.example/g00208/laws.FnExactValueAt", spec := "fnExactValueAt", unfollowed := true, recurses := true, apart := false }
def FnExactValueAtSaid : Prop := fnExactValueAtRow.holds Try.pinned (OpenSpec.ofChange fnExactValueAtSpec)

/-- ITS FALSE NEIGHBOUR: 'it returns false'. Refute it at one input. -/
def fnExactValueAtWrong : ChangeSpec := { name := "fnExactValueAt", fn := fun _ => fun
  | [d1, d2, d3] => { results := [.lit (.bool false)], args := [d1, d2, d3] }
  | _ => none }
def FnExactValueAtWrongFalsely : Prop := fnExactValueAtRow.holds Try.pinned (OpenSpec.ofChange fnExactValueAtWrong)

/-- 'laws.FnExactHistoryOK': WHATEVER THE INPUT: true; the input reads as it did. -/
def fnExactHistoryOKSpec : ChangeSpec := { name := "fnExactHistoryOK", fn := fun _ => fun
  | [d] => { results := [.lit (.bool true)], args := [d] }
  | _ => none }
def fnExactHistoryOKRow : OpenClaim := { program := "ytlhmcdafnlcioaa", sum := "e04631db4dfa58aa81d0f986fa95dbe0da446158bac00ac2bacc647194a879ce", func := "loop.example/g00208/laws.FnExactHistoryOK", spec := "fnExactHistoryOK", apart := false }
def FnExactHistoryOKSaid : Prop := fnExactHistoryOKRow.holds Try.pinned (OpenSpec.ofChange fnExactHistoryOKSpec)

/-- ITS FALSE NEIGHBOUR: 'it returns false'. Refute it at one input. -/
def fnExactHistoryOKWrong : ChangeSpec := { name := "fnExactHistoryOK", fn := fun _ => fun
  | [d] => { results := [.lit (.bool false)], args := [d] }
  | _ => none }
def FnExactHistoryOKWrongFalsely : Prop := fnExactHistoryOKRow.holds Try.pinned (OpenSpec.ofChange fnExactHistoryOKWrong)

/-- 'laws.FnExactConflicts': WHATEVER THE INPUT: true; the input reads as it did. -/
def fnExactConflictsSpec : ChangeSpec := { name := "fnExactConflicts", fn := fun _ => fun
  | [d] => { results := [.lit (.bool true)], args := [d] }
  | _ => none }
def fnExactConflictsRow : OpenClaim := { program := "ytlhmcdafnlcioaa", sum := "e04631db4dfa58aa81d0f986fa95dbe0da446158bac00ac2bacc647194a879ce", func := "loop.example/g00208/laws.FnExactConflicts", spec := "fnExactConflicts", unfollowed := true, recurses := true, apart := false }
def FnExactConflictsSaid : Prop := fnExactConflictsRow.holds Try.pinned (OpenSpec.ofChange fnExactConflictsSpec)

/-- ITS FALSE NEIGHBOUR: 'it returns false'. Refute it at one input. -/
def fnExactConflictsWrong : ChangeSpec := { name := "fnExactConflicts", fn := fun _ => fun
  | [d] => { results := [.lit (.bool false)], args := [d] }
  | _ => none }
def FnExactConflictsWrongFalsely : Prop := fnExactConflictsRow.holds Try.pinned (OpenSpec.ofChange fnExactConflictsWrong)

/-- 'laws.FnExactPlayHistory': WHATEVER THE INPUT: true; the input reads as it did. -/
def fnExactPlayHistorySpec : ChangeSpec := { name := "fnExactPlayHistory", fn := fun _ => fun
  | [d] => { results := [.lit (.bool true)], args := [d] }
  | _ => none }
def fnExactPlayHistoryRow : OpenClaim := { program := "ytlhmcdafnlcioaa", sum := "e04631db4dfa58aa81d0f986fa95dbe0da446158bac00ac2bacc647194a879ce", func := "loop.example/g00208/laws.FnExactPlayHistory", spec := "fnExactPlayHistory", unfollowed := true, recurses := true, apart := false }
def FnExactPlayHistorySaid : Prop := fnExactPlayHistoryRow.holds Try.pinned (OpenSpec.ofChange fnExactPlayHistorySpec)

/-- ITS FALSE NEIGHBOUR: 'it returns false'. Refute it at one input. -/
def fnExactPlayHistoryWrong : ChangeSpec := { name := "fnExactPlayHistory", fn := fun _ => fun
  | [d] => { results := [.lit (.bool false)], args := [d] }
  | _ => none }
def FnExactPlayHistoryWrongFalsely : Prop := fnExactPlayHistoryRow.holds Try.pinned (OpenSpec.ofChange fnExactPlayHistoryWrong)

/-- 'laws.FnExactSerialHistory': WHATEVER THE INPUT: true; the input reads as it did. -/
def fnExactSerialHistorySpec : ChangeSpec := { name := "fnExactSerialHistory", fn := fun _ => fun
  | [d1, d2] => { results := [.lit (.bool true)], args := [d1, d2] }
  | _ => none }
def fnExactSerialHistoryRow : OpenClaim := { program := "ytlhmcdafnlcioaa", sum := "e04631db4dfa58aa81d0f986fa95dbe0da446158bac00ac2bacc647194a879ce", func := "loop.example/g00208/laws.FnExactSerialHistory", spec := "fnExactSerialHistory", apart := false }
def FnExactSerialHistorySaid : Prop := fnExactSerialHistoryRow.holds Try.pinned (OpenSpec.ofChange fnExactSerialHistorySpec)

/-- ITS FALSE NEIGHBOUR: 'it returns false'. Refute it at one input. -/
def fnExactSerialHistoryWrong : ChangeSpec := { name := "fnExactSerialHistory", fn := fun _ => fun
  | [d1, d2] => { results := [.lit (.bool false)], args := [d1, d2] }
  | _ => none }
def FnExactSerialHistoryWrongFalsely : Prop := fnExactSerialHistoryRow.holds Try.pinned (OpenSpec.ofChange fnExactSerialHistoryWrong)

/-- 'laws.FnAcyclic': WHATEVER THE INPUT: true; the input reads as it did. -/
def fnAcyclicSpec : ChangeSpec := { name := "fnAcyclic", fn := fun _ => fun
  | [d] => { results := [.lit (.bool true)], args := [d] }
  | _ => none }
def fnAcyclicRow : OpenClaim := { program := "ytlhmcdafnlcioaa", sum := "e04631db4dfa58aa81d0f986fa95dbe0da446158bac00ac2bacc647194a879ce", func := "loop.example/g00208/laws.FnAcyclic", spec := "fnAcyclic", unfollowed := true, recurses := true, apart := false }
def FnAcyclicSaid : Prop := fnAcyclicRow.holds Try.pinned (OpenSpec.ofChange fnAcyclicSpec)

/-- ITS FALSE NEIGHBOUR: 'it returns false'. Refute it at one input. -/
def fnAcyclicWrong : ChangeSpec := { name := "fnAcyclic", fn := fun _ => fun
  | [d] => { results := [.lit (.bool false)], args := [d] }
  | _ => none }
def FnAcyclicWrongFalsely : Prop := fnAcyclicRow.holds Try.pinned (OpenSpec.ofChange fnAcyclicWrong)

/-- 'laws.FnExactSerialOrder': WHATEVER THE INPUT: true; the input reads as it did. -/
def fnExactSerialOrderSpec : ChangeSpec := { name := "fnExactSerialOrder", fn := fun _ => fun
  | [d1, d2] => { results := [.lit (.bool true)], args := [d1, d2] }
  | _ => none }
def fnExactSerialOrderRow : OpenClaim := { program := "ytlhmcdafnlcioaa", sum := "e04631db4dfa58aa81d0f986fa95dbe0da446158bac00ac2bacc647194a879ce", func := "loop.example/g00208/laws.FnExactSerialOrder", spec := "fnExactSerialOrder", unfollowed := true, recurses := true, apart := false }
def FnExactSerialOrderSaid : Prop := fnExactSerialOrderRow.holds Try.pinned (OpenSpec.ofChange fnExactSerialOrderSpec)

/-- ITS FALSE NEIGHBOUR: 'it returns false'. Refute it at one input. -/
def fnExactSerialOrderWrong : ChangeSpec := { name := "fnExactSerialOrder", fn := fun _ => fun
  | [d1, d2] => { results := [.lit (.bool false)], args := [d1, d2] }
  | _ => none }
def FnExactSerialOrderWrongFalsely : Prop := fnExactSerialOrderRow.holds Try.pinned (OpenSpec.ofChange fnExactSerialOrderWrong)

/-- 'laws.FnExactCommitted': WHATEVER THE INPUT: true; the input reads as it did. -/
def fnExactCommittedSpec : ChangeSpec := { name := "fnExactCommitted", fn := fun _ => fun
  | [d] => { results := [.lit (.bool true)], args := [d] }
  | _ => none }
def fnExactCommittedRow : OpenClaim := { program := "ytlhmcdafnlcioaa", sum := "e04631db4dfa58aa81d0f986fa95dbe0da446158bac00ac2bacc647194a879ce", func := "loop.example/g00208/laws.FnExactCommitted", spec := "fnExactCommitted", recurses := true, apart := false }
def FnExactCommittedSaid : Prop := fnExactCommittedRow.holds Try.pinned (OpenSpec.ofChange fnExactCommittedSpec)

/-- ITS FALSE NEIGHBOUR: 'it returns false'. Refute it at one input. -/
def fnExactCommittedWrong : ChangeSpec := { name := "fnExactCommitted", fn := fun _ => fun
  | [d] => { results := [.lit (.bool false)], args := [d] }
  | _ => none }
def FnExactCommittedWrongFalsely : Prop := fnExactCommittedRow.holds Try.pinned (OpenSpec.ofChange fnExactCommittedWrong)

/-- 'laws.FnExactTreeSize': WHATEVER THE INPUT: true; the input reads as it did. -/
def fnExactTreeSizeSpec : ChangeSpec := { name := "fnExactTreeSize", fn := fun _ => fun
  | [d] => { results := [.lit (.bool true)], args := [d] }
  | _ => none }
def fnExactTreeSizeRow : OpenClaim := { program := "ytlhmcdafnlcioaa", sum := "e04631db4dfa58aa81d0f986fa95dbe0da446158bac00ac2bacc647194a879ce", func := "loop.example/g00208/laws.FnExactTreeSize", spec := "fnExactTreeSize", recurses := true, loops := true, apart := false }
def FnExactTreeSizeSaid : Prop := fnExactTreeSizeRow.holds Try.pinned (OpenSpec.ofChange fnExactTreeSizeSpec)

/-- ITS FALSE NEIGHBOUR: 'it returns false'. Refute it at one input. -/
def fnExactTreeSizeWrong : ChangeSpec := { name := "fnExactTreeSize", fn := fun _ => fun
  | [d] => { results := [.lit (.bool false)], args := [d] }
  | _ => none }
def FnExactTreeSizeWrongFalsely : Prop := fnExactTreeSizeRow.holds Try.pinned (OpenSpec.ofChange fnExactTreeSizeWrong)

/- THE SECOND FORM. 'bulk': how many values and letters a reading holds, each counted each time it is reached (what is shared counts as often as it is met; a slice's spare places count too). A statement '..UptoSaid' is the law's where the arguments, and the package variables that the reading takes, are together of bulk at most 1048576: NARROWER than '..Said'. Prove '..Said' where nothing that the law and all that it calls make is longer than what came in: it says more and counts as full. Else prove '..UptoSaid'. A law counts once. -/
mutual
def uptoBulk {H : Type} : DataW H → Nat
  | .lit (.string bytes) => bytes.length + 1
  | .lit _ => 1
  | .nil => 1
  | .ptr d => uptoBulk d + 1
  | .slice elems spare => uptoBulkAll elems + uptoBulkAll spare + 1
  | .agg parts => uptoBulkAll parts + 1
  | .iface _ d => uptoBulk d + 1
  | .map entries => uptoBulkEntries entries + 1
  | .held _ => 1
def uptoBulkAll {H : Type} : List (DataW H) → Nat
  | [] => 0
  | d :: r => uptoBulk d + uptoBulkAll r
def uptoBulkEntries {H : Type} : List (Lit × DataW H) → Nat
  | [] => 0
  | x :: r => uptoBulkEntry x + uptoBulkEntries r
def uptoBulkEntry {H : Type} : Lit × DataW H → Nat
  | (.string bytes, d) => bytes.length + uptoBulk d + 1
  | (_, d) => uptoBulk d + 1
 end
def uptoSmall : (H : Type) → List (DataW H) → Bool := fun _ ds => decide (uptoBulkAll ds ≤ 1048576)
def OpenSpec.upto (s : _root_.Go.ChangeSpec) : _root_.Go.OpenSpec := { _root_.Go.OpenSpec.ofChange s with cond := some uptoSmall }

/-- 'laws.FnExactNewBase', WHERE WHAT IT READS IS OF BULK AT MOST 1048576: true; the input reads as it did. -/
def fnExactNewBaseUptoRow : OpenClaim := { program := "ytlhmcdafnlcioaa", sum := "e04631db4dfa58aa81d0f986fa95dbe0da446158bac00ac2bacc647194a879ce", func := "loop.example/g00208/laws.FnExactNewBase", spec := "fnExactNewBase", apart := false, narrowed := true }
def FnExactNewBaseUptoSaid : Prop := fnExactNewBaseUptoRow.holds Try.pinned (OpenSpec.upto fnExactNewBaseSpec)

/-- 'laws.FnExactBaseOK', WHERE WHAT IT READS IS OF BULK AT MOST 1048576: true; the input reads as it did. -/
def fnExactBaseOKUptoRow : OpenClaim := { program := "ytlhmcdafnlcioaa", sum := "e04631db4dfa58aa81d0f986fa95dbe0da446158bac00ac2bacc647194a879ce", func := "loop.example/g00208/laws.FnExactBaseOK", spec := "fnExactBaseOK", unfollowed := true, recurses := true, apart := false, narrowed := true }
def FnExactBaseOKUptoSaid : Prop := fnExactBaseOKUptoRow.holds Try.pinned (OpenSpec.upto fnExactBaseOKSpec)

/-- 'laws.FnExactHorizon', WHERE WHAT IT READS IS OF BULK AT MOST 1048576: true; the input reads as it did. -/
def fnExactHorizonUptoRow : OpenClaim := { program := "ytlhmcdafnlcioaa", sum := "e04631db4dfa58aa81d0f986fa95dbe0da446158bac00ac2bacc647194a879ce", func := "loop.example/g00208/laws.FnExactHorizon", spec := "fnExactHorizon", unfollowed := true, recurses := true, apart := false, narrowed := true }
def FnExactHorizonUptoSaid : Prop := fnExactHorizonUptoRow.holds Try.pinned (OpenSpec.upto fnExactHorizonSpec)

/-- 'laws.FnExactValueAt', WHERE WHAT IT READS IS OF BULK AT MOST 1048576: true; the input reads as it did. -/
def fnExactValueAtUptoRow : OpenClaim := { program := "ytlhmcdafnlcioaa", sum := "e04631db4dfa58aa81d0f986fa95dbe0da446158bac00ac2bacc647194a879ce", func := "loop.example/g00208/laws.FnExactValueAt", spec := "fnExactValueAt", unfollowed := true, recurses := true, apart := false, narrowed := true }
def FnExactValueAtUptoSaid : Prop := fnExactValueAtUptoRow.holds Try.pinned (OpenSpec.upto fnExactValueAtSpec)

/-- 'laws.FnExactHistoryOK', WHERE WHAT IT READS IS OF BULK AT MOST 1048576: true; the input reads as it did. -/
def fnExactHistoryOKUptoRow : OpenClaim := { program := "ytlhmcdafnlcioaa", sum := "e04631db4dfa58aa81d0f986fa95dbe0da446158bac00ac2bacc647194a879ce", func := "loop.example/g00208/laws.FnExactHistoryOK", spec := "fnExactHistoryOK", apart := false, narrowed := true }
def FnExactHistoryOKUptoSaid : Prop := fnExactHistoryOKUptoRow.holds Try.pinned (OpenSpec.upto fnExactHistoryOKSpec)

/-- 'laws.FnExactConflicts', WHERE WHAT IT READS IS OF BULK AT MOST 1048576: true; the input reads as it did. -/
def fnExactConflictsUptoRow : OpenClaim := { program := "ytlhmcdafnlcioaa", sum := "e04631db4dfa58aa81d0f986fa95dbe0da446158bac00ac2bacc647194a879ce", func := "loop.example/g00208/laws.FnExactConflicts", spec := "fnExactConflicts", unfollowed := true, recurses := true, apart := false, narrowed := true }
def FnExactConflictsUptoSaid : Prop := fnExactConflictsUptoRow.holds Try.pinned (OpenSpec.upto fnExactConflictsSpec)

/-- 'laws.FnExactPlayHistory', WHERE WHAT IT READS IS OF BULK AT MOST 1048576: true; the input reads as it did. -/
def fnExactPlayHistoryUptoRow : OpenClaim := { program := "ytlhmcdafnlcioaa", sum := "e04631db4dfa58aa81d0f986fa95dbe0da446158bac00ac2bacc647194a879ce", func := "loop.example/g00208/laws.FnExactPlayHistory", spec := "fnExactPlayHistory", unfollowed := true, recurses := true, apart := false, narrowed := true }
def FnExactPlayHistoryUptoSaid : Prop := fnExactPlayHistoryUptoRow.holds Try.pinned (OpenSpec.upto fnExactPlayHistorySpec)

/-- 'laws.FnExactSerialHistory', WHERE WHAT IT READS IS OF BULK AT MOST 1048576: true; the input reads as it did. -/
def fnExactSerialHistoryUptoRow : OpenClaim := { program := "ytlhmcdafnlcioaa", sum := "e04631db4dfa58aa81d0f986fa95dbe0da446158bac00ac2bacc647194a879ce", func := "loop.example/g00208/laws.FnExactSerialHistory", spec := "fnExactSerialHistory", apart := false, narrowed := true }
def FnExactSerialHistoryUptoSaid : Prop := fnExactSerialHistoryUptoRow.holds Try.pinned (OpenSpec.upto fnExactSerialHistorySpec)

/-- 'laws.FnAcyclic', WHERE WHAT IT READS IS OF BULK AT MOST 1048576: true; the input reads as it did. -/
def fnAcyclicUptoRow : OpenClaim := { program := "ytlhmcdafnlcioaa", sum := "e04631db4dfa58aa81d0f986fa95dbe0da446158bac00ac2bacc647194a879ce", func := "loop.example/g00208/laws.FnAcyclic", spec := "fnAcyclic", unfollowed := true, recurses := true, apart := false, narrowed := true }
def FnAcyclicUptoSaid : Prop := fnAcyclicUptoRow.holds Try.pinned (OpenSpec.upto fnAcyclicSpec)

/-- 'laws.FnExactSerialOrder', WHERE WHAT IT READS IS OF BULK AT MOST 1048576: true; the input reads as it did. -/
def fnExactSerialOrderUptoRow : OpenClaim := { program := "ytlhmcdafnlcioaa", sum := "e04631db4dfa58aa81d0f986fa95dbe0da446158bac00ac2bacc647194a879ce", func := "loop.example/g00208/laws.FnExactSerialOrder", spec := "fnExactSerialOrder", unfollowed := true, recurses := true, apart := false, narrowed := true }
def FnExactSerialOrderUptoSaid : Prop := fnExactSerialOrderUptoRow.holds Try.pinned (OpenSpec.upto fnExactSerialOrderSpec)

/-- 'laws.FnExactCommitted', WHERE WHAT IT READS IS OF BULK AT MOST 1048576: true; the input reads as it did. -/
def fnExactCommittedUptoRow : OpenClaim := { program := "ytlhmcdafnlcioaa", sum := "e04631db4dfa58aa81d0f986fa95dbe0da446158bac00ac2bacc647194a879ce", func := "loop.example/g00208/laws.FnExactCommitted", spec := "fnExactCommitted", recurses := true, apart := false, narrowed := true }
def FnExactCommittedUptoSaid : Prop := fnExactCommittedUptoRow.holds Try.pinned (OpenSpec.upto fnExactCommittedSpec)

/-- 'laws.FnExactTreeSize', WHERE WHAT IT READS IS OF BULK AT MOST 1048576: true; the input reads as it did. -/
def fnExactTreeSizeUptoRow : OpenClaim := { program := "ytlhmcdafnlcioaa", sum := "e04631db4dfa58aa81d0f986fa95dbe0da446158bac00ac2bacc647194a879ce", func := "loop.example/g00208/laws.FnExactTreeSize", spec := "fnExactTreeSize", recurses := true, loops := true, apart := false, narrowed := true }
def FnExactTreeSizeUptoSaid : Prop := fnExactTreeSizeUptoRow.holds Try.pinned (OpenSpec.upto fnExactTreeSizeSpec)

end Rows
end Go.Proofs.Ytlhmcdafnlcioaa
