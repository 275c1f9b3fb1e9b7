/-
  No cell of these rows narrows 'for every input' (looked for: loops, veiled, ifaces, maps, wideKeys, modest, calm, conditions, laid).
  DERIVED. THE GIVEN ROWS OF THIS SEAT. 12 by the template 'for every input the law returns true; each argument reads behind the call as it read before'; 0 by the template 'total and deterministic' (their statements: YtagdjkdnblpghaaTotals.lean).
  GIVEN WITH THE SEED: the statements are not yours to turn. If you find one false, say at which input.
  Laid BY PROGRAM, IN A SANDBOX (cutbox-rows.mjs): the forced cells as the released guide's own fill.sh prints them over the translation 66a6665861f45fbf… (all of the seat's roots in one cut). By AI agents, Wed Nov 11 2026. No macro, syntax, notation, axiom, sorry.
-/
import Derived.Test.YtagdjkdnblpghaaChecked
import GoSem.Claim
import GoSem.ClaimJoined
import GoSem.ClaimMapViews
import Derived.JoinedTies
import Derived.KernelRfl
namespace Go.Proofs.Ytagdjkdnblpghaa
/- THE CELL 'sum', in the pinned program and in every row, IS THE sha256 OF THE DUMP (.gsa) THAT YtagdjkdnblpghaaProg.lean LOADS. Nothing in Lean hashes anything: it is a label: what it is worth is what the hold of that sum in a sandbox is worth. -/
noncomputable def Try.pinned : Pinned := { name := "ytagdjkdnblpghaa", sum := "66a6665861f45fbf980962f5fe5fbec842a5f0477727b3fd52a8a8a199c85ebb", checked := Try.checked }
namespace Rows
def none {H : Type} : Left H := { results := [], args := [] }

/-- 'laws.FnExactConstants': WHATEVER THE INPUT: true; the input reads as it did. -/
def fnExactConstantsSpec : ChangeSpec := { name := "fnExactConstants", fn := fun _ => fun
  | [] => { results := [.lit (.bool true)], args := [] }
  | _ => none }
def fnExactConstantsRow : OpenClaim := { program := "ytagdjkdnblpghaa", sum := "66a6665861f45fbf980962f5fe5fbec842a5f0477727b3fd52a8a8a199c85ebb", func := "loop.example/g00208/laws.FnExactConstants", spec := "fnExactConstants", apart := false }
def FnExactConstantsSaid : Prop := fnExactConstantsRow.holds Try.pinned (OpenSpec.ofChange fnExactConstantsSpec)

/-- ITS FALSE NEIGHBOUR: 'it returns false'. Refute it at one input. -/
def fnExactConstantsWrong : ChangeSpec := { name := "fnExactConstants", fn := fun _ => fun
  | [] => { results := [.lit (.bool false)], args := [] }
  | _ => none }
def FnExactConstantsWrongFalsely : Prop := fnExactConstantsRow.holds Try.pinned (OpenSpec.ofChange fnExactConstantsWrong)

/-- 'laws.FnExactPageSum': WHATEVER THE INPUT: true; the input reads as it did. -/
def fnExactPageSumSpec : ChangeSpec := { name := "fnExactPageSum", fn := fun _ => fun
  | [d] => { results := [.lit (.bool true)], args := [d] }
  | _ => none }
def fnExactPageSumRow : OpenClaim := { program := "ytagdjkdnblpghaa", sum := "66a6665861f45fbf980962f5fe5fbec842a5f0477727b3fd52a8a8a199c85ebb", func := "loop.example/g00208/laws.FnExactPageSum", spec := "fnExactPageSum", apart := false }
def FnExactPageSumSaid : Prop := fnExactPageSumRow.holds Try.pinned (OpenSpec.ofChange fnExactPageSumSpec)

/-- ITS FALSE NEIGHBOUR: 'it returns false'. Refute it at one input. -/
def fnExactPageSumWrong : ChangeSpec := { name := "fnExactPageSum", fn := fun _ => fun
  | [d] => { results := [.lit (.bool false)], args := [d] }
  | _ => none }
def FnExactPageSumWrongFalsely : Prop := fnExactPageSumRow.holds Try.pinned (OpenSpec.ofChange fnExactPageSumWrong)

/-- 'laws.FnExactReadPage': WHATEVER THE INPUT: true; the input reads as it did. -/
def fnExactReadPageSpec : ChangeSpec := { name := "fnExactReadPage", fn := fun _ => fun
  | [d1, d2, d3] => { results := [.lit (.bool true)], args := [d1, d2, d3] }
  | _ => none }
def fnExactReadPageRow : OpenClaim := { program := "ytagdjkdnblpghaa", sum := "66a6665861f45fbf980962f5fe5fbec842a5f0477727b3fd52a8a8a199c85ebb", func := "loop.example/g00208/laws.FnExactReadPage", spec := "fnExactReadPage", unfollowed := true, recurses := true, apart := false }
def FnExactReadPageSaid : Prop := fnExactReadPageRow.holds Try.pinned (OpenSpec.ofChange fnExactReadPageSpec)

/-- ITS FALSE NEIGHBOUR: 'it returns false'. Refute it at one input. -/
def fnExactReadPageWrong : ChangeSpec := { name := "fnExactReadPage", fn := fun _ => fun
  | [d1, d2, d3] => { results := [.lit (.bool false)], args := [d1, d2, d3] }
  | _ => none }
def FnExactReadPageWrongFalsely : Prop := fnExactReadPageRow.holds Try.pinned (OpenSpec.ofChange fnExactReadPageWrong)

/-- 'laws.FnExactDiskOK': WHATEVER THE INPUT: true; the input reads as it did. -/
def fnExactDiskOKSpec : ChangeSpec := { name := "fnExactDiskOK", fn := fun _ => fun
  | [d] => { results := [.lit (.bool true)], args := [d] }
  | _ => none }
def fnExactDiskOKRow : OpenClaim := { program := "ytagdjkdnblpghaa", sum := "66a6665861f45fbf980962f5fe5fbec842a5f0477727b3fd52a8a8a199c85ebb", func := "loop.example/g00208/laws.FnExactDiskOK", spec := "fnExactDiskOK", unfollowed := true, recurses := true, apart := false }
def FnExactDiskOKSaid : Prop := fnExactDiskOKRow.holds Try.pinned (OpenSpec.ofChange fnExactDiskOKSpec)

/-- ITS FALSE NEIGHBOUR: 'it returns false'. Refute it at one input. -/
def fnExactDiskOKWrong : ChangeSpec := { name := "fnExactDiskOK", fn := fun _ => fun
  | [d] => { results := [.lit (.bool false)], args := [d] }
  | _ => none }
def FnExactDiskOKWrongFalsely : Prop := fnExactDiskOKRow.holds Try.pinned (OpenSpec.ofChange fnExactDiskOKWrong)

/-- 'laws.FnExactDiskRead': WHATEVER THE INPUT: true; the input reads as it did. -/
def fnExactDiskReadSpec : ChangeSpec := { name := "fnExactDiskRead", fn := fun _ => fun
  | [d1, d2] => { results := [.lit (.bool true)], args := [d1, d2] }
  | _ => none }
def fnExactDiskReadRow : OpenClaim := { program := "ytagdjkdnblpghaa", sum := "66a6665861f45fbf980962f5fe5fbec842a5f0477727b3fd52a8a8a199c85ebb", func := "loop.example/g00208/laws.FnExactDiskRead", spec := "fnExactDiskRead", unfollowed := true, recurses := true, apart := false }
def FnExactDiskReadSaid : Prop := fnExactDiskReadRow.holds Try.pinned (OpenSpec.ofChange fnExactDiskReadSpec)

/-- ITS FALSE NEIGHBOUR: 'it returns false'. Refute it at one input. -/
def fnExactDiskReadWrong : ChangeSpec := { name := "fnExactDiskRead", fn := fun _ => fun
  | [d1, d2] => { results := [.lit (.bool false)], args := [d1, d2] }
  | _ => none }
def FnExactDiskReadWrongFalsely : Prop := fnExactDiskReadRow.holds Try.pinned (OpenSpec.ofChange fnExactDiskReadWrong)

/-- 'laws.FnExactDiskSame': WHATEVER THE INPUT: true; the input reads as it did. -/
def fnExactDiskSameSpec : ChangeSpec := { name := "fnExactDiskSame", fn := fun _ => fun
  | [d1, d2] => { results := [.lit (.bool true)], args := [d1, d2] }
  | _ => none }
def fnExactDiskSameRow : OpenClaim := { program := "ytagdjkdnblpghaa", sum := "66a6665861f45fbf980962f5fe5fbec842a5f0477727b3fd52a8a8a199c85ebb", func := "loop.example/g00208/laws.FnExactDiskSame", spec := "fnExactDiskSame", unfollowed := true, recurses := true, apart := false }
def FnExactDiskSameSaid : Prop := fnExactDiskSameRow.holds Try.pinned (OpenSpec.ofChange fnExactDiskSameSpec)

/-- ITS FALSE NEIGHBOUR: 'it returns false'. Refute it at one input. -/
def fnExactDiskSameWrong : ChangeSpec := { name := "fnExactDiskSame", fn := fun _ => fun
  | [d1, d2] => { results := [.lit (.bool false)], args := [d1, d2] }
  | _ => none }
def FnExactDiskSameWrongFalsely : Prop := fnExactDiskSameRow.holds Try.pinned (OpenSpec.ofChange fnExactDiskSameWrong)

/-- 'laws.FnExactMetaBytes': WHATEVER THE INPUT: true; the input reads as it did. -/
def fnExactMetaBytesSpec : ChangeSpec := { name := "fnExactMetaBytes", fn := fun _ => fun
  | [d] => { results := [.lit (.bool true)], args := [d] }
  | _ => none }
def fnExactMetaBytesRow : OpenClaim := { program := "ytagdjkdnblpghaa", sum := "66a6665861f45fbf980962f5fe5fbec842a5f0477727b3fd52a8a8a199c85ebb", func := "loop.example/g00208/laws.FnExactMetaBytes", spec := "fnExactMetaBytes", inPlace := ["internal/abi.NoEscape", "internal/bytealg.MakeNoZero"], apart := false }
def FnExactMetaBytesSaid : Prop := fnExactMetaBytesRow.holds Try.pinned (OpenSpec.ofChange fnExactMetaBytesSpec)

/-- ITS FALSE NEIGHBOUR: 'it returns false'. Refute it at one input. -/
def fnExactMetaBytesWrong : ChangeSpec := { name := "fnExactMetaBytes", fn := fun _ => fun
  | [d] => { results := [.lit (.bool false)], args := [d] }
  | _ => none }
def FnExactMetaBytesWrongFalsely : Prop := fnExactMetaBytesRow.holds Try.pinned (OpenSpec.ofChange fnExactMetaBytesWrong)

/-- 'laws.FnExactPageBytes': WHATEVER THE INPUT: true; the input reads as it did. -/
def fnExactPageBytesSpec : ChangeSpec := { name := "fnExactPageBytes", fn := fun _ => fun
  | [d1, d2, d3, d4] => { results := [.lit (.bool true)], args := [d1, d2, d3, d4] }
  | _ => none }
def fnExactPageBytesRow : OpenClaim := { program := "ytagdjkdnblpghaa", sum := "66a6665861f45fbf980962f5fe5fbec842a5f0477727b3fd52a8a8a199c85ebb", func := "loop.example/g00208/laws.FnExactPageBytes", spec := "fnExactPageBytes", inPlace := ["internal/abi.NoEscape", "internal/bytealg.MakeNoZero"], unfollowed := true, recurses := true, apart := false }
def FnExactPageBytesSaid : Prop := fnExactPageBytesRow.holds Try.pinned (OpenSpec.ofChange fnExactPageBytesSpec)

/-- ITS FALSE NEIGHBOUR: 'it returns false'. Refute it at one input. -/
def fnExactPageBytesWrong : ChangeSpec := { name := "fnExactPageBytes", fn := fun _ => fun
  | [d1, d2, d3, d4] => { results := [.lit (.bool false)], args := [d1, d2, d3, d4] }
  | _ => none }
def FnExactPageBytesWrongFalsely : Prop := fnExactPageBytesRow.holds Try.pinned (OpenSpec.ofChange fnExactPageBytesWrong)

/-- 'laws.FnExactReadMeta': WHATEVER THE INPUT: true; the input reads as it did. -/
def fnExactReadMetaSpec : ChangeSpec := { name := "fnExactReadMeta", fn := fun _ => fun
  | [d] => { results := [.lit (.bool true)], args := [d] }
  | _ => none }
def fnExactReadMetaRow : OpenClaim := { program := "ytagdjkdnblpghaa", sum := "66a6665861f45fbf980962f5fe5fbec842a5f0477727b3fd52a8a8a199c85ebb", func := "loop.example/g00208/laws.FnExactReadMeta", spec := "fnExactReadMeta", inPlace := ["internal/abi.NoEscape", "internal/bytealg.MakeNoZero"], unfollowed := true, recurses := true, apart := false }
def FnExactReadMetaSaid : Prop := fnExactReadMetaRow.holds Try.pinned (OpenSpec.ofChange fnExactReadMetaSpec)

/-- ITS FALSE NEIGHBOUR: 'it returns false'. Refute it at one input. -/
def fnExactReadMetaWrong : ChangeSpec := { name := "fnExactReadMeta", fn := fun _ => fun
  | [d] => { results := [.lit (.bool false)], args := [d] }
  | _ => none }
def FnExactReadMetaWrongFalsely : Prop := fnExactReadMetaRow.holds Try.pinned (OpenSpec.ofChange fnExactReadMetaWrong)

/-- 'laws.FnExactNewDisk': WHATEVER THE INPUT: true; the input reads as it did. -/
def fnExactNewDiskSpec : ChangeSpec := { name := "fnExactNewDisk", fn := fun _ => fun
  | [d] => { results := [.lit (.bool true)], args := [d] }
  | _ => none }
def fnExactNewDiskRow : OpenClaim := { program := "ytagdjkdnblpghaa", sum := "66a6665861f45fbf980962f5fe5fbec842a5f0477727b3fd52a8a8a199c85ebb", func := "loop.example/g00208/laws.FnExactNewDisk", spec := "fnExactNewDisk", inPlace := ["internal/abi.NoEscape", "internal/bytealg.MakeNoZero"], apart := false }
def FnExactNewDiskSaid : Prop := fnExactNewDiskRow.holds Try.pinned (OpenSpec.ofChange fnExactNewDiskSpec)

/-- ITS FALSE NEIGHBOUR: 'it returns false'. Refute it at one input. -/
def fnExactNewDiskWrong : ChangeSpec := { name := "fnExactNewDisk", fn := fun _ => fun
  | [d] => { results := [.lit (.bool false)], args := [d] }
  | _ => none }
def FnExactNewDiskWrongFalsely : Prop := fnExactNewDiskRow.holds Try.pinned (OpenSpec.ofChange fnExactNewDiskWrong)

/-- 'laws.FnSectors': WHATEVER THE INPUT: true; the input reads as it did. -/
def fnSectorsSpec : ChangeSpec := { name := "fnSectors", fn := fun _ => fun
  | [d1, d2] => { results := [.lit (.bool true)], args := [d1, d2] }
  | _ => none }
def fnSectorsRow : OpenClaim := { program := "ytagdjkdnblpghaa", sum := "66a6665861f45fbf980962f5fe5fbec842a5f0477727b3fd52a8a8a199c85ebb", func := "loop.example/g00208/laws.FnSectors", spec := "fnSectors", inPlace := ["internal/abi.NoEscape", "internal/bytealg.MakeNoZero"], unfollowed := true, recurses := true, apart := false }
def FnSectorsSaid : Prop := fnSectorsRow.holds Try.pinned (OpenSpec.ofChange fnSectorsSpec)

/-- ITS FALSE NEIGHBOUR: 'it returns false'. Refute it at one input. -/
def fnSectorsWrong : ChangeSpec := { name := "fnSectors", fn := fun _ => fun
  | [d1, d2] => { results := [.lit (.bool false)], args := [d1, d2] }
  | _ => none }
def FnSectorsWrongFalsely : Prop := fnSectorsRow.holds Try.pinned (OpenSpec.ofChange fnSectorsWrong)

/-- 'laws.FnExactDiskStep': WHATEVER THE INPUT: true; the input reads as it did. -/
def fnExactDiskStepSpec : ChangeSpec := { name := "fnExactDiskStep", fn := fun _ => fun
  | [d1, d2] => { results := [.lit (.bool true)], args := [d1, d2] }
  | _ => none }
def fnExactDiskStepRow : OpenClaim := { program := "ytagdjkdnblpghaa", sum := "66a6665861f45fbf980962f5fe5fbec842a5f0477727b3fd52a8a8a199c85ebb", func := "loop.example/g00208/laws.FnExactDiskStep", spec := "fnExactDiskStep", unfollowed := true, recurses := true, apart := false }
def FnExactDiskStepSaid : Prop := fnExactDiskStepRow.holds Try.pinned (OpenSpec.ofChange fnExactDiskStepSpec)

/-- ITS FALSE NEIGHBOUR: 'it returns false'. Refute it at one input. -/
def fnExactDiskStepWrong : ChangeSpec := { name := "fnExactDiskStep", fn := fun _ => fun
  | [d1, d2] => { results := [.lit (.bool false)], args := [d1, d2] }
  | _ => none }
def FnExactDiskStepWrongFalsely : Prop := fnExactDiskStepRow.holds Try.pinned (OpenSpec.ofChange fnExactDiskStepWrong)

/- THE SECOND FORM. 'bulk': how many values and letters a reading holds, each counted each time it is reached (what is shared counts as often as it is met; a slice's spare places count too). A statement '..UptoSaid' is the law's where the arguments, and the package variables that the reading takes, are together of bulk at most 1048576: NARROWER than '..Said'. Prove '..Said' where nothing that the law and all that it calls make is longer than what came in: it says more and counts as full. Else prove '..UptoSaid'. A law counts once. -/
mutual
def uptoBulk {H : Type} : DataW H → Nat
  | .lit (.string bytes) => bytes.length + 1
  | .lit _ => 1
  | .nil => 1
  | .ptr d => uptoBulk d + 1
  | .slice elems spare => uptoBulkAll elems + uptoBulkAll spare + 1
  | .agg parts => uptoBulkAll parts + 1
  | .iface _ d => uptoBulk d + 1
  | .map entries => uptoBulkEntries entries + 1
  | .held _ => 1
def uptoBulkAll {H : Type} : List (DataW H) → Nat
  | [] => 0
  | d :: r => uptoBulk d + uptoBulkAll r
def uptoBulkEntries {H : Type} : List (Lit × DataW H) → Nat
  | [] => 0
  | x :: r => uptoBulkEntry x + uptoBulkEntries r
def uptoBulkEntry {H : Type} : Lit × DataW H → Nat
  | (.string bytes, d) => bytes.length + uptoBulk d + 1
  | (_, d) => uptoBulk d + 1
 end
def uptoSmall : (H : Type) → List (DataW H) → Bool := fun _ ds => decide (uptoBulkAll ds ≤ 1048576)
def OpenSpec.upto (s : _root_.Go.ChangeSpec) : _root_.Go.OpenSpec := { _root_.Go.OpenSpec.ofChange s with cond := some uptoSmall }

/-- 'laws.FnExactConstants', WHERE WHAT IT READS IS OF BULK AT MOST 1048576: true; the input reads as it did. -/
def fnExactConstantsUptoRow : OpenClaim := { program := "ytagdjkdnblpghaa", sum := "66a6665861f45fbf980962f5fe5fbec842a5f0477727b3fd52a8a8a199c85ebb", func := "loop.example/g00208/laws.FnExactConstants", spec := "fnExactConstants", apart := false, narrowed := true }
def FnExactConstantsUptoSaid : Prop := fnExactConstantsUptoRow.holds Try.pinned (OpenSpec.upto fnExactConstantsSpec)

/-- 'laws.FnExactPageSum', WHERE WHAT IT READS IS OF BULK AT MOST 1048576: true; the input reads as it did. -/
def fnExactPageSumUptoRow : OpenClaim := { program := "ytagdjkdnblpghaa", sum := "66a6665861f45fbf980962f5fe5fbec842a5f0477727b3fd52a8a8a199c85ebb", func := "loop.example/g00208/laws.FnExactPageSum", spec := "fnExactPageSum", apart := false, narrowed := true }
def FnExactPageSumUptoSaid : Prop := fnExactPageSumUptoRow.holds Try.pinned (OpenSpec.upto fnExactPageSumSpec)

/-- 'laws.FnExactReadPage', WHERE WHAT IT READS IS OF BULK AT MOST 1048576: true; the input reads as it did. -/
def fnExactReadPageUptoRow : OpenClaim := { program := "ytagdjkdnblpghaa", sum := "66a6665861f45fbf980962f5fe5fbec842a5f0477727b3fd52a8a8a199c85ebb", func := "loop.example/g00208/laws.FnExactReadPage", spec := "fnExactReadPage", unfollowed := true, recurses := true, apart := false, narrowed := true }
def FnExactReadPageUptoSaid : Prop := fnExactReadPageUptoRow.holds Try.pinned (OpenSpec.upto fnExactReadPageSpec)

/-- 'laws.FnExactDiskOK', WHERE WHAT IT READS IS OF BULK AT MOST 1048576: true; the input reads as it did. -/
def fnExactDiskOKUptoRow : OpenClaim := { program := "ytagdjkdnblpghaa", sum := "66a6665861f45fbf980962f5fe5fbec842a5f0477727b3fd52a8a8a199c85ebb", func := "loop.example/g00208/laws.FnExactDiskOK", spec := "fnExactDiskOK", unfollowed := true, recurses := true, apart := false, narrowed := true }
def FnExactDiskOKUptoSaid : Prop := fnExactDiskOKUptoRow.holds Try.pinned (OpenSpec.upto fnExactDiskOKSpec)

/-- 'laws.FnExactDiskRead', WHERE WHAT IT READS IS OF BULK AT MOST 1048576: true; the input reads as it did. -/
def fnExactDiskReadUptoRow : OpenClaim := { program := "ytagdjkdnblpghaa", sum := "66a6665861f45fbf980962f5fe5fbec842a5f0477727b3fd52a8a8a199c85ebb", func := "loop.example/g00208/laws.FnExactDiskRead", spec := "fnExactDiskRead", unfollowed := true, recurses := true, apart := false, narrowed := true }
def FnExactDiskReadUptoSaid : Prop := fnExactDiskReadUptoRow.holds Try.pinned (OpenSpec.upto fnExactDiskReadSpec)

/-- 'laws.FnExactDiskSame', WHERE WHAT IT READS IS OF BULK AT MOST 1048576: true; the input reads as it did. -/
def fnExactDiskSameUptoRow : OpenClaim := { program := "ytagdjkdnblpghaa", sum := "66a6665861f45fbf980962f5fe5fbec842a5f0477727b3fd52a8a8a199c85ebb", func := "loop.example/g00208/laws.FnExactDiskSame", spec := "fnExactDiskSame", unfollowed := true, recurses := true, apart := false, narrowed := true }
def FnExactDiskSameUptoSaid : Prop := fnExactDiskSameUptoRow.holds Try.pinned (OpenSpec.upto fnExactDiskSameSpec)

/-- 'laws.FnExactMetaBytes', WHERE WHAT IT READS IS OF BULK AT MOST 1048576: true; the input reads as it did. -/
def fnExactMetaBytesUptoRow : OpenClaim := { program := "ytagdjkdnblpghaa", sum := "66a6665861f45fbf980962f5fe5fbec842a5f0477727b3fd52a8a8a199c85ebb", func := "loop.example/g00208/laws.FnExactMetaBytes", spec := "fnExactMetaBytes", inPlace := ["internal/abi.NoEscape", "internal/bytealg.MakeNoZero"], apart := false, narrowed := true }
def FnExactMetaBytesUptoSaid : Prop := fnExactMetaBytesUptoRow.holds Try.pinned (OpenSpec.upto fnExactMetaBytesSpec)

/-- 'laws.FnExactPageBytes', WHERE WHAT IT READS IS OF BULK AT MOST 1048576: true; the input reads as it did. -/
def fnExactPageBytesUptoRow : OpenClaim := { program := "ytagdjkdnblpghaa", sum := "66a6665861f45fbf980962f5fe5fbec842a5f0477727b3fd52a8a8a199c85ebb", func := "loop.example/g00208/laws.FnExactPageBytes", spec := "fnExactPageBytes", inPlace := ["internal/abi.NoEscape", "internal/bytealg.MakeNoZero"], unfollowed := true, recurses := true, apart := false, narrowed := true }
def FnExactPageBytesUptoSaid : Prop := fnExactPageBytesUptoRow.holds Try.pinned (OpenSpec.upto fnExactPageBytesSpec)

/-- 'laws.FnExactReadMeta', WHERE WHAT IT READS IS OF BULK AT MOST 1048576: true; the input reads as it did. -/
def fnExactReadMetaUptoRow : OpenClaim := { program := "ytagdjkdnblpghaa", sum := "66a6665861f45fbf980962f5fe5fbec842a5f0477727b3fd52a8a8a199c85ebb", func := "loop.example/g00208/laws.FnExactReadMeta", spec := "fnExactReadMeta", inPlace := ["internal/abi.NoEscape", "internal/bytealg.MakeNoZero"], unfollowed := true, recurses := true, apart := false, narrowed := true }
def FnExactReadMetaUptoSaid : Prop := fnExactReadMetaUptoRow.holds Try.pinned (OpenSpec.upto fnExactReadMetaSpec)

/-- 'laws.FnExactNewDisk', WHERE WHAT IT READS IS OF BULK AT MOST 1048576: true; the input reads as it did. -/
def fnExactNewDiskUptoRow : OpenClaim := { program := "ytagdjkdnblpghaa", sum := "66a6665861f45fbf980962f5fe5fbec842a5f0477727b3fd52a8a8a199c85ebb", func := "loop.example/g00208/laws.FnExactNewDisk", spec := "fnExactNewDisk", inPlace := ["internal/abi.NoEscape", "internal/bytealg.MakeNoZero"], apart := false, narrowed := true }
def FnExactNewDiskUptoSaid : Prop := fnExactNewDiskUptoRow.holds Try.pinned (OpenSpec.upto fnExactNewDiskSpec)

/-- 'laws.FnSectors', WHERE WHAT IT READS IS OF BULK AT MOST 1048576: true; the input reads as it did. -/
def fnSectorsUptoRow : OpenClaim := { program := "ytagdjkdnblpghaa", sum := "66a6665861f45fbf980962f5fe5fbec842a5f0477727b3fd52a8a8a199c85ebb", func := "loop.example/g00208/laws.FnSectors", spec := "fnSectors", inPlace := ["internal/abi.NoEscape", "internal/bytealg.MakeNoZero"], unfollowed := true, recurses := true, apart := false, narrowed := true }
def FnSectorsUptoSaid : Prop := fnSectorsUptoRow.holds Try.pinned (OpenSpec.upto fnSectorsSpec)

/-- 'laws.FnExactDiskStep', WHERE WHAT IT READS IS OF BULK AT MOST 1048576: true; the input reads as it did. -/
def fnExactDiskStepUptoRow : OpenClaim := { program := "ytagdjkdnblpghaa", sum := "66a6665861f45fbf980962f5fe5fbec842a5f0477727b3fd52a8a8a199c85ebb", func := "loop.example/g00208/laws.FnExactDiskStep", spec := "fnExactDiskStep", unfollowed := true, recurses := true, apart := false, narrowed := true }
def FnExactDiskStepUptoSaid : Prop := fnExactDiskStepUptoRow.holds Try.pinned (OpenSpec.upto fnExactDiskStepSpec)

end Rows
end Go.Proofs.Ytagdjkdnblpghaa
