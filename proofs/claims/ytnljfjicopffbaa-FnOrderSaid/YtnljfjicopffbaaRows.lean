/-
  No cell of these rows narrows 'for every input' (looked for: loops, veiled, ifaces, maps, wideKeys, modest, calm, conditions, laid).
  DERIVED. THE GIVEN ROWS OF THIS SEAT. 6 by the template 'for every input the law returns true; each argument reads behind the call as it read before'; 0 by the template 'total and deterministic' (their statements: YtnljfjicopffbaaTotals.lean).
  GIVEN WITH THE SEED: the statements are not yours to turn. If you find one false, say at which input.
  Laid BY PROGRAM, IN A SANDBOX (cutbox-rows.mjs): the forced cells as the released guide's own fill.sh prints them over the translation e60a0ba9ec50deec… (all of the seat's roots in one cut). By AI agents, Wed Nov 11 2026. No macro, syntax, notation, axiom, sorry.
-/
import Derived.Test.YtnljfjicopffbaaChecked
import GoSem.Claim
import GoSem.ClaimJoined
import GoSem.ClaimMapViews
import Derived.JoinedTies
import Derived.KernelRfl
namespace Go.Proofs.Ytnljfjicopffbaa
/- THE CELL 'sum', in the pinned program and in every row, IS THE sha256 OF THE DUMP (.gsa) THAT YtnljfjicopffbaaProg.lean LOADS. Nothing in Lean hashes anything: it is a label: what it is worth is what the hold of that sum in a sandbox is worth. -/
noncomputable def Try.pinned : Pinned := { name := "ytnljfjicopffbaa", sum := "e60a0ba9ec50deecef01d17817f5b122f3ec36ae014fea96a02d6bef0ba2a0a0", checked := Try.checked }
namespace Rows
def none {H : Type} : Left H := { results := [], args := [] }

/-- 'laws.FnExactNameOK': WHATEVER THE INPUT: true; the input reads as it did. -/
def fnExactNameOKSpec : ChangeSpec := { name := "fnExactNameOK", fn := fun _ => fun
  | [d] => { results := [.lit (.bool true)], args := [d] }
  | _ => none }
def fnExactNameOKRow : OpenClaim := { program := "ytnljfjicopffbaa", sum := "e60a0ba9ec50deecef01d17817f5b122f3ec36ae014fea96a02d6bef0ba2a0a0", func := "loop.example/g00208/laws.FnExactNameOK", spec := "fnExactNameOK", apart := false }
def FnExactNameOKSaid : Prop := fnExactNameOKRow.holds Try.pinned (OpenSpec.ofChange fnExactNameOKSpec)

/-- ITS FALSE NEIGHBOUR: 'it returns false'. Refute it at one input. -/
def fnExactNameOKWrong : ChangeSpec := { name := "fnExactNameOK", fn := fun _ => fun
  | [d] => { results := [.lit (.bool false)], args := [d] }
  | _ => none }
def FnExactNameOKWrongFalsely : Prop := fnExactNameOKRow.holds Try.pinned (OpenSpec.ofChange fnExactNameOKWrong)

/-- 'laws.FnExactValueOK': WHATEVER THE INPUT: true; the input reads as it did. -/
def fnExactValueOKSpec : ChangeSpec := { name := "fnExactValueOK", fn := fun _ => fun
  | [d] => { results := [.lit (.bool true)], args := [d] }
  | _ => none }
def fnExactValueOKRow : OpenClaim := { program := "ytnljfjicopffbaa", sum := "e60a0ba9ec50deecef01d17817f5b122f3ec36ae014fea96a02d6bef0ba2a0a0", func := "loop.example/g00208/laws.FnExactValueOK", spec := "fnExactValueOK", apart := false }
def FnExactValueOKSaid : Prop := fnExactValueOKRow.holds Try.pinned (OpenSpec.ofChange fnExactValueOKSpec)

/-- ITS FALSE NEIGHBOUR: 'it returns false'. Refute it at one input. -/
def fnExactValueOKWrong : ChangeSpec := { name := "fnExactValueOK", fn := fun _ => fun
  | [d] => { results := [.lit (.bool false)], args := [d] }
  | _ => none }
def FnExactValueOKWrongFalsely : Prop := fnExactValueOKRow.holds Try.pinned (OpenSpec.ofChange fnExactValueOKWrong)

/-- 'laws.FnExactCompareValues': WHATEVER THE INPUT: true; the input reads as it did. -/
def fnExactCompareValuesSpec : ChangeSpec := { name := "fnExactCompareValues", fn := fun _ => fun
  | [d1, d2] => { results := [.lit (.bool true)], args := [d1, d2] }
  | _ => none }
def fnExactCompareValuesRow : OpenClaim := { program := "ytnljfjicopffbaa", sum := "e60a0ba9ec50deecef01d17817f5b122f3ec36ae014fea96a02d6bef0ba2a0a0", func := "loop.example/g00208/laws.FnExactCompareValues", spec := "fnExactCompareValues", apart := false }
def FnExactCompareValuesSaid : Prop := fnExactCompareValuesRow.holds Try.pinned (OpenSpec.ofChange fnExactCompareValuesSpec)

/-- ITS FALSE NEIGHBOUR: 'it returns false'. Refute it at one input. -/
def fnExactCompareValuesWrong : ChangeSpec := { name := "fnExactCompareValues", fn := fun _ => fun
  | [d1, d2] => { results := [.lit (.bool false)], args := [d1, d2] }
  | _ => none }
def FnExactCompareValuesWrongFalsely : Prop := fnExactCompareValuesRow.holds Try.pinned (OpenSpec.ofChange fnExactCompareValuesWrong)

/-- 'laws.FnOrder': WHATEVER THE INPUT: true; the input reads as it did. -/
def fnOrderSpec : ChangeSpec := { name := "fnOrder", fn := fun _ => fun
  | [d1, d2] => { results := [.lit (.bool true)], args := [d1, d2] }
  | _ => none }
def fnOrderRow : OpenClaim := { program := "ytnljfjicopffbaa", sum := "e60a0ba9ec50deecef01d17817f5b122f3ec36ae014fea96a02d6bef0ba2a0a0", func := "loop.example/g00208/laws.FnOrder", spec := "fnOrder", apart := false }
def FnOrderSaid : Prop := fnOrderRow.holds Try.pinned (OpenSpec.ofChange fnOrderSpec)

/-- ITS FALSE NEIGHBOUR: 'it returns false'. Refute it at one input. -/
def fnOrderWrong : ChangeSpec := { name := "fnOrder", fn := fun _ => fun
  | [d1, d2] => { results := [.lit (.bool false)], args := [d1, d2] }
  | _ => none }
def FnOrderWrongFalsely : Prop := fnOrderRow.holds Try.pinned (OpenSpec.ofChange fnOrderWrong)

/-- 'laws.FnExactCompareRows': WHATEVER THE INPUT: true; the input reads as it did. -/
def fnExactCompareRowsSpec : ChangeSpec := { name := "fnExactCompareRows", fn := fun _ => fun
  | [d1, d2] => { results := [.lit (.bool true)], args := [d1, d2] }
  | _ => none }
def fnExactCompareRowsRow : OpenClaim := { program := "ytnljfjicopffbaa", sum := "e60a0ba9ec50deecef01d17817f5b122f3ec36ae014fea96a02d6bef0ba2a0a0", func := "loop.example/g00208/laws.FnExactCompareRows", spec := "fnExactCompareRows", unfollowed := true, recurses := true, apart := false }
def FnExactCompareRowsSaid : Prop := fnExactCompareRowsRow.holds Try.pinned (OpenSpec.ofChange fnExactCompareRowsSpec)

/-- ITS FALSE NEIGHBOUR: 'it returns false'. Refute it at one input. -/
def fnExactCompareRowsWrong : ChangeSpec := { name := "fnExactCompareRows", fn := fun _ => fun
  | [d1, d2] => { results := [.lit (.bool false)], args := [d1, d2] }
  | _ => none }
def FnExactCompareRowsWrongFalsely : Prop := fnExactCompareRowsRow.holds Try.pinned (OpenSpec.ofChange fnExactCompareRowsWrong)

/-- 'laws.FnExactRowBytes': WHATEVER THE INPUT: true; the input reads as it did. -/
def fnExactRowBytesSpec : ChangeSpec := { name := "fnExactRowBytes", fn := fun _ => fun
  | [d] => { results := [.lit (.bool true)], args := [d] }
  | _ => none }
def fnExactRowBytesRow : OpenClaim := { program := "ytnljfjicopffbaa", sum := "e60a0ba9ec50deecef01d17817f5b122f3ec36ae014fea96a02d6bef0ba2a0a0", func := "loop.example/g00208/laws.FnExactRowBytes", spec := "fnExactRowBytes", unfollowed := true, recurses := true, apart := false }
def FnExactRowBytesSaid : Prop := fnExactRowBytesRow.holds Try.pinned (OpenSpec.ofChange fnExactRowBytesSpec)

/-- ITS FALSE NEIGHBOUR: 'it returns false'. Refute it at one input. -/
def fnExactRowBytesWrong : ChangeSpec := { name := "fnExactRowBytes", fn := fun _ => fun
  | [d] => { results := [.lit (.bool false)], args := [d] }
  | _ => none }
def FnExactRowBytesWrongFalsely : Prop := fnExactRowBytesRow.holds Try.pinned (OpenSpec.ofChange fnExactRowBytesWrong)

/- THE SECOND FORM. 'bulk': how many values and letters a reading holds, each counted each time it is reached (what is shared counts as often as it is met; a slice's spare places count too). A statement '..UptoSaid' is the law's where the arguments, and the package variables that the reading takes, are together of bulk at most 1048576: NARROWER than '..Said'. Prove '..Said' where nothing that the law and all that it calls make is longer than what came in: it says more and counts as full. Else prove '..UptoSaid'. A law counts once. -/
mutual
def uptoBulk {H : Type} : DataW H → Nat
  | .lit (.string bytes) => bytes.length + 1
  | .lit _ => 1
  | .nil => 1
  | .ptr d => uptoBulk d + 1
  | .slice elems spare => uptoBulkAll elems + uptoBulkAll spare + 1
  | .agg parts => uptoBulkAll parts + 1
  | .iface _ d => uptoBulk d + 1
  | .map entries => uptoBulkEntries entries + 1
  | .held _ => 1
def uptoBulkAll {H : Type} : List (DataW H) → Nat
  | [] => 0
  | d :: r => uptoBulk d + uptoBulkAll r
def uptoBulkEntries {H : Type} : List (Lit × DataW H) → Nat
  | [] => 0
  | x :: r => uptoBulkEntry x + uptoBulkEntries r
def uptoBulkEntry {H : Type} : Lit × DataW H → Nat
  | (.string bytes, d) => bytes.length + uptoBulk d + 1
  | (_, d) => uptoBulk d + 1
 end
def uptoSmall : (H : Type) → List (DataW H) → Bool := fun _ ds => decide (uptoBulkAll ds ≤ 1048576)
def OpenSpec.upto (s : _root_.Go.ChangeSpec) : _root_.Go.OpenSpec := { _root_.Go.OpenSpec.ofChange s with cond := some uptoSmall }

/-- 'laws.FnExactNameOK', WHERE WHAT IT READS IS OF BULK AT MOST 1048576: true; the input reads as it did. -/
def fnExactNameOKUptoRow : OpenClaim := { program := "ytnljfjicopffbaa", sum := "e60a0ba9ec50deecef01d17817f5b122f3ec36ae014fea96a02d6bef0ba2a0a0", func := "loop.example/g00208/laws.FnExactNameOK", spec := "fnExactNameOK", apart := false, narrowed := true }
def FnExactNameOKUptoSaid : Prop := fnExactNameOKUptoRow.holds Try.pinned (OpenSpec.upto fnExactNameOKSpec)

/-- 'laws.FnExactValueOK', WHERE WHAT IT READS IS OF BULK AT MOST 1048576: true; the input reads as it did. -/
def fnExactValueOKUptoRow : OpenClaim := { program := "ytnljfjicopffbaa", sum := "e60a0ba9ec50deecef01d17817f5b122f3ec36ae014fea96a02d6bef0ba2a0a0", func := "loop.example/g00208/laws.FnExactValueOK", spec := "fnExactValueOK", apart := false, narrowed := true }
def FnExactValueOKUptoSaid : Prop := fnExactValueOKUptoRow.holds Try.pinned (OpenSpec.upto fnExactValueOKSpec)

/-- 'laws.FnExactCompareValues', WHERE WHAT IT READS IS OF BULK AT MOST 1048576: true; the input reads as it did. -/
def fnExactCompareValuesUptoRow : OpenClaim := { program := "ytnljfjicopffbaa", sum := "e60a0ba9ec50deecef01d17817f5b122f3ec36ae014fea96a02d6bef0ba2a0a0", func := "loop.example/g00208/laws.FnExactCompareValues", spec := "fnExactCompareValues", apart := false, narrowed := true }
def FnExactCompareValuesUptoSaid : Prop := fnExactCompareValuesUptoRow.holds Try.pinned (OpenSpec.upto fnExactCompareValuesSpec)

/-- 'laws.FnOrder', WHERE WHAT IT READS IS OF BULK AT MOST 1048576: true; the input reads as it did. -/
def fnOrderUptoRow : OpenClaim := { program := "ytnljfjicopffbaa", sum := "e60a0ba9ec50deecef01d17817f5b122f3ec36ae014fea96a02d6bef0ba2a0a0", func := "loop.example/g00208/laws.FnOrder", spec := "fnOrder", apart := false, narrowed := true }
def FnOrderUptoSaid : Prop := fnOrderUptoRow.holds Try.pinned (OpenSpec.upto fnOrderSpec)

/-- 'laws.FnExactCompareRows', WHERE WHAT IT READS IS OF BULK AT MOST 1048576: true; the input reads as it did. -/
def fnExactCompareRowsUptoRow : OpenClaim := { program := "ytnljfjicopffbaa", sum := "e60a0ba9ec50deecef01d17817f5b122f3ec36ae014fea96a02d6bef0ba2a0a0", func := "loop.example/g00208/laws.FnExactCompareRows", spec := "fnExactCompareRows", unfollowed := true, recurses := true, apart := false, narrowed := true }
def FnExactCompareRowsUptoSaid : Prop := fnExactCompareRowsUptoRow.holds Try.pinned (OpenSpec.upto fnExactCompareRowsSpec)

/-- 'laws.FnExactRowBytes', WHERE WHAT IT READS IS OF BULK AT MOST 1048576: true; the input reads as it did. -/
def fnExactRowBytesUptoRow : OpenClaim := { program := "ytnljfjicopffbaa", sum := "e60a0ba9ec50deecef01d17817f5b122f3ec36ae014fea96a02d6bef0ba2a0a0", func := "loop.example/g00208/laws.FnExactRowBytes", spec := "fnExactRowBytes", unfollowed := true, recurses := true, apart := false, narrowed := true }
def FnExactRowBytesUptoSaid : Prop := fnExactRowBytesUptoRow.holds Try.pinned (OpenSpec.upto fnExactRowBytesSpec)

end Rows
end Go.Proofs.Ytnljfjicopffbaa
