/-
  No cell of these rows narrows 'for every input' (looked for: loops, veiled, ifaces, maps, wideKeys, modest, calm, conditions, laid).
  DERIVED. THE GIVEN ROWS OF THIS SEAT. 10 by the template 'for every input the law returns true; each argument reads behind the call as it read before'; 0 by the template 'total and deterministic' (their statements: YtlnlolhihodgoaaTotals.lean).
  GIVEN WITH THE SEED: the statements are not yours to turn. If you find one false, say at which input.
  Laid BY PROGRAM, IN A SANDBOX (cutbox-rows.mjs): the forced cells as the released guide's own fill.sh prints them over the translation 5fd4797c067b40c2… (all of the seat's roots in one cut). By AI agents, Wed Nov 11 2026. No macro, syntax, notation, axiom, sorry.
-/
import Derived.Test.YtlnlolhihodgoaaChecked
import GoSem.Claim
import GoSem.ClaimJoined
import GoSem.ClaimMapViews
import Derived.JoinedTies
import Derived.KernelRfl
namespace Go.Proofs.Ytlnlolhihodgoaa
/- THE CELL 'sum', in the pinned program and in every row, IS THE sha256 OF THE DUMP (.gsa) THAT YtlnlolhihodgoaaProg.lean LOADS. Nothing in Lean hashes anything: it is a label: what it is worth is what the hold of that sum in a sandbox is worth. -/
noncomputable def Try.pinned : Pinned := { name := "ytlnlolhihodgoaa", sum := "5fd4797c067b40c2146edbbb9657616f3a6710d8ec9c657505833316a1a3aa34", checked := Try.checked }
namespace Rows
def none {H : Type} : Left H := { results := [], args := [] }

/-- 'switchboardlaw05.FrameChunks': WHATEVER THE INPUT: true; the input reads as it did. -/
def frameChunksSpec : ChangeSpec := { name := "frameChunks", fn := fun _ => fun
  | [d1, d2, d3] => { results := [.lit (.bool true)], args := [d1, d2, d3] }
  | _ => none }
def frameChunksRow : OpenClaim := { program := "ytlnlolhihodgoaa", sum := "5fd4797c067b40c2146edbbb9657616f3a6710d8ec9c657505833316a1a3aa34", func := "switchboard/switchboardlaw05.FrameChunks", spec := "frameChunks", apart := false }
def FrameChunksSaid : Prop := frameChunksRow.holds Try.pinned (OpenSpec.ofChange frameChunksSpec)

/-- ITS FALSE NEIGHBOUR: 'it returns false'. Refute it at one input. -/
def frameChunksWrong : ChangeSpec := { name := "frameChunks", fn := fun _ => fun
  | [d1, d2, d3] => { results := [.lit (.bool false)], args := [d1, d2, d3] }
  | _ => none }
def FrameChunksWrongFalsely : Prop := frameChunksRow.holds Try.pinned (OpenSpec.ofChange frameChunksWrong)

/-- 'switchboardlaw05.FrameBig': WHATEVER THE INPUT: true; the input reads as it did. -/
def frameBigSpec : ChangeSpec := { name := "frameBig", fn := fun _ => fun
  | [d] => { results := [.lit (.bool true)], args := [d] }
  | _ => none }
def frameBigRow : OpenClaim := { program := "ytlnlolhihodgoaa", sum := "5fd4797c067b40c2146edbbb9657616f3a6710d8ec9c657505833316a1a3aa34", func := "switchboard/switchboardlaw05.FrameBig", spec := "frameBig", apart := false }
def FrameBigSaid : Prop := frameBigRow.holds Try.pinned (OpenSpec.ofChange frameBigSpec)

/-- ITS FALSE NEIGHBOUR: 'it returns false'. Refute it at one input. -/
def frameBigWrong : ChangeSpec := { name := "frameBig", fn := fun _ => fun
  | [d] => { results := [.lit (.bool false)], args := [d] }
  | _ => none }
def FrameBigWrongFalsely : Prop := frameBigRow.holds Try.pinned (OpenSpec.ofChange frameBigWrong)

/-- 'switchboardlaw05.FrameReads': WHATEVER THE INPUT: true; the input reads as it did. -/
def frameReadsSpec : ChangeSpec := { name := "frameReads", fn := fun _ => fun
  | [d1, d2] => { results := [.lit (.bool true)], args := [d1, d2] }
  | _ => none }
def frameReadsRow : OpenClaim := { program := "ytlnlolhihodgoaa", sum := "5fd4797c067b40c2146edbbb9657616f3a6710d8ec9c657505833316a1a3aa34", func := "switchboard/switchboardlaw05.FrameReads", spec := "frameReads", apart := false }
def FrameReadsSaid : Prop := frameReadsRow.holds Try.pinned (OpenSpec.ofChange frameReadsSpec)

/-- ITS FALSE NEIGHBOUR: 'it returns false'. Refute it at one input. -/
def frameReadsWrong : ChangeSpec := { name := "frameReads", fn := fun _ => fun
  | [d1, d2] => { results := [.lit (.bool false)], args := [d1, d2] }
  | _ => none }
def FrameReadsWrongFalsely : Prop := frameReadsRow.holds Try.pinned (OpenSpec.ofChange frameReadsWrong)

/-- 'switchboardlaw05.FrameBack': WHATEVER THE INPUT: true; the input reads as it did. -/
def frameBackSpec : ChangeSpec := { name := "frameBack", fn := fun _ => fun
  | [d] => { results := [.lit (.bool true)], args := [d] }
  | _ => none }
def frameBackRow : OpenClaim := { program := "ytlnlolhihodgoaa", sum := "5fd4797c067b40c2146edbbb9657616f3a6710d8ec9c657505833316a1a3aa34", func := "switchboard/switchboardlaw05.FrameBack", spec := "frameBack", apart := false }
def FrameBackSaid : Prop := frameBackRow.holds Try.pinned (OpenSpec.ofChange frameBackSpec)

/-- ITS FALSE NEIGHBOUR: 'it returns false'. Refute it at one input. -/
def frameBackWrong : ChangeSpec := { name := "frameBack", fn := fun _ => fun
  | [d] => { results := [.lit (.bool false)], args := [d] }
  | _ => none }
def FrameBackWrongFalsely : Prop := frameBackRow.holds Try.pinned (OpenSpec.ofChange frameBackWrong)

/-- 'switchboardlaw05.FrameHead': WHATEVER THE INPUT: true; the input reads as it did. -/
def frameHeadSpec : ChangeSpec := { name := "frameHead", fn := fun _ => fun
  | [d] => { results := [.lit (.bool true)], args := [d] }
  | _ => none }
def frameHeadRow : OpenClaim := { program := "ytlnlolhihodgoaa", sum := "5fd4797c067b40c2146edbbb9657616f3a6710d8ec9c657505833316a1a3aa34", func := "switchboard/switchboardlaw05.FrameHead", spec := "frameHead", apart := false }
def FrameHeadSaid : Prop := frameHeadRow.holds Try.pinned (OpenSpec.ofChange frameHeadSpec)

/-- ITS FALSE NEIGHBOUR: 'it returns false'. Refute it at one input. -/
def frameHeadWrong : ChangeSpec := { name := "frameHead", fn := fun _ => fun
  | [d] => { results := [.lit (.bool false)], args := [d] }
  | _ => none }
def FrameHeadWrongFalsely : Prop := frameHeadRow.holds Try.pinned (OpenSpec.ofChange frameHeadWrong)

/-- 'switchboardlaw03.PropTakes': WHATEVER THE INPUT: true; the input reads as it did. -/
def propTakesSpec : ChangeSpec := { name := "propTakes", fn := fun _ => fun
  | [d1, d2, d3] => { results := [.lit (.bool true)], args := [d1, d2, d3] }
  | _ => none }
def propTakesRow : OpenClaim := { program := "ytlnlolhihodgoaa", sum := "5fd4797c067b40c2146edbbb9657616f3a6710d8ec9c657505833316a1a3aa34", func := "switchboard/switchboardlaw03.PropTakes", spec := "propTakes", apart := false }
def PropTakesSaid : Prop := propTakesRow.holds Try.pinned (OpenSpec.ofChange propTakesSpec)

/-- ITS FALSE NEIGHBOUR: 'it returns false'. Refute it at one input. -/
def propTakesWrong : ChangeSpec := { name := "propTakes", fn := fun _ => fun
  | [d1, d2, d3] => { results := [.lit (.bool false)], args := [d1, d2, d3] }
  | _ => none }
def PropTakesWrongFalsely : Prop := propTakesRow.holds Try.pinned (OpenSpec.ofChange propTakesWrong)

/-- 'switchboardlaw03.PropElse': WHATEVER THE INPUT: true; the input reads as it did. -/
def propElseSpec : ChangeSpec := { name := "propElse", fn := fun _ => fun
  | [d1, d2, d3, d4] => { results := [.lit (.bool true)], args := [d1, d2, d3, d4] }
  | _ => none }
def propElseRow : OpenClaim := { program := "ytlnlolhihodgoaa", sum := "5fd4797c067b40c2146edbbb9657616f3a6710d8ec9c657505833316a1a3aa34", func := "switchboard/switchboardlaw03.PropElse", spec := "propElse", apart := false }
def PropElseSaid : Prop := propElseRow.holds Try.pinned (OpenSpec.ofChange propElseSpec)

/-- ITS FALSE NEIGHBOUR: 'it returns false'. Refute it at one input. -/
def propElseWrong : ChangeSpec := { name := "propElse", fn := fun _ => fun
  | [d1, d2, d3, d4] => { results := [.lit (.bool false)], args := [d1, d2, d3, d4] }
  | _ => none }
def PropElseWrongFalsely : Prop := propElseRow.holds Try.pinned (OpenSpec.ofChange propElseWrong)

/-- 'switchboardlaw03.PropRange': WHATEVER THE INPUT: true; the input reads as it did. -/
def propRangeSpec : ChangeSpec := { name := "propRange", fn := fun _ => fun
  | [d1, d2, d3, d4] => { results := [.lit (.bool true)], args := [d1, d2, d3, d4] }
  | _ => none }
def propRangeRow : OpenClaim := { program := "ytlnlolhihodgoaa", sum := "5fd4797c067b40c2146edbbb9657616f3a6710d8ec9c657505833316a1a3aa34", func := "switchboard/switchboardlaw03.PropRange", spec := "propRange", apart := false }
def PropRangeSaid : Prop := propRangeRow.holds Try.pinned (OpenSpec.ofChange propRangeSpec)

/-- ITS FALSE NEIGHBOUR: 'it returns false'. Refute it at one input. -/
def propRangeWrong : ChangeSpec := { name := "propRange", fn := fun _ => fun
  | [d1, d2, d3, d4] => { results := [.lit (.bool false)], args := [d1, d2, d3, d4] }
  | _ => none }
def PropRangeWrongFalsely : Prop := propRangeRow.holds Try.pinned (OpenSpec.ofChange propRangeWrong)

/-- 'switchboardlaw03.PropPuts': WHATEVER THE INPUT: true; the input reads as it did. -/
def propPutsSpec : ChangeSpec := { name := "propPuts", fn := fun _ => fun
  | [d1, d2, d3, d4] => { results := [.lit (.bool true)], args := [d1, d2, d3, d4] }
  | _ => none }
def propPutsRow : OpenClaim := { program := "ytlnlolhihodgoaa", sum := "5fd4797c067b40c2146edbbb9657616f3a6710d8ec9c657505833316a1a3aa34", func := "switchboard/switchboardlaw03.PropPuts", spec := "propPuts", apart := false }
def PropPutsSaid : Prop := propPutsRow.holds Try.pinned (OpenSpec.ofChange propPutsSpec)

/-- ITS FALSE NEIGHBOUR: 'it returns false'. Refute it at one input. -/
def propPutsWrong : ChangeSpec := { name := "propPuts", fn := fun _ => fun
  | [d1, d2, d3, d4] => { results := [.lit (.bool false)], args := [d1, d2, d3, d4] }
  | _ => none }
def PropPutsWrongFalsely : Prop := propPutsRow.holds Try.pinned (OpenSpec.ofChange propPutsWrong)

/-- 'switchboardlaw03.PropBack': WHATEVER THE INPUT: true; the input reads as it did. -/
def propBackSpec : ChangeSpec := { name := "propBack", fn := fun _ => fun
  | [d1, d2, d3, d4] => { results := [.lit (.bool true)], args := [d1, d2, d3, d4] }
  | _ => none }
def propBackRow : OpenClaim := { program := "ytlnlolhihodgoaa", sum := "5fd4797c067b40c2146edbbb9657616f3a6710d8ec9c657505833316a1a3aa34", func := "switchboard/switchboardlaw03.PropBack", spec := "propBack", apart := false }
def PropBackSaid : Prop := propBackRow.holds Try.pinned (OpenSpec.ofChange propBackSpec)

/-- ITS FALSE NEIGHBOUR: 'it returns false'. Refute it at one input. -/
def propBackWrong : ChangeSpec := { name := "propBack", fn := fun _ => fun
  | [d1, d2, d3, d4] => { results := [.lit (.bool false)], args := [d1, d2, d3, d4] }
  | _ => none }
def PropBackWrongFalsely : Prop := propBackRow.holds Try.pinned (OpenSpec.ofChange propBackWrong)

/- THE SECOND FORM. 'bulk': how many values and letters a reading holds, each counted each time it is reached (what is shared counts as often as it is met; a slice's spare places count too). A statement '..UptoSaid' is the law's where the arguments, and the package variables that the reading takes, are together of bulk at most 1048576: NARROWER than '..Said'. Prove '..Said' where nothing that the law and all that it calls make is longer than what came in: it says more and counts as full. Else prove '..UptoSaid'. A law counts once. -/
mutual
def uptoBulk {H : Type} : DataW H → Nat
  | .lit (.string bytes) => bytes.length + 1
  | .lit _ => 1
  | .nil => 1
  | .ptr d => uptoBulk d + 1
  | .slice elems spare => uptoBulkAll elems + uptoBulkAll spare + 1
  | .agg parts => uptoBulkAll parts + 1
  | .iface _ d => uptoBulk d + 1
  | .map entries => uptoBulkEntries entries + 1
  | .held _ => 1
def uptoBulkAll {H : Type} : List (DataW H) → Nat
  | [] => 0
  | d :: r => uptoBulk d + uptoBulkAll r
def uptoBulkEntries {H : Type} : List (Lit × DataW H) → Nat
  | [] => 0
  | x :: r => uptoBulkEntry x + uptoBulkEntries r
def uptoBulkEntry {H : Type} : Lit × DataW H → Nat
  | (.string bytes, d) => bytes.length + uptoBulk d + 1
  | (_, d) => uptoBulk d + 1
 end
def uptoSmall : (H : Type) → List (DataW H) → Bool := fun _ ds => decide (uptoBulkAll ds ≤ 1048576)
def OpenSpec.upto (s : _root_.Go.ChangeSpec) : _root_.Go.OpenSpec := { _root_.Go.OpenSpec.ofChange s with cond := some uptoSmall }

/-- 'switchboardlaw05.FrameChunks', WHERE WHAT IT READS IS OF BULK AT MOST 1048576: true; the input reads as it did. -/
def frameChunksUptoRow : OpenClaim := { program := "ytlnlolhihodgoaa", sum := "5fd4797c067b40c2146edbbb9657616f3a6710d8ec9c657505833316a1a3aa34", func := "switchboard/switchboardlaw05.FrameChunks", spec := "frameChunks", apart := false, narrowed := true }
def FrameChunksUptoSaid : Prop := frameChunksUptoRow.holds Try.pinned (OpenSpec.upto frameChunksSpec)

/-- 'switchboardlaw05.FrameBig', WHERE WHAT IT READS IS OF BULK AT MOST 1048576: true; the input reads as it did. -/
def frameBigUptoRow : OpenClaim := { program := "ytlnlolhihodgoaa", sum := "5fd4797c067b40c2146edbbb9657616f3a6710d8ec9c657505833316a1a3aa34", func := "switchboard/switchboardlaw05.FrameBig", spec := "frameBig", apart := false, narrowed := true }
def FrameBigUptoSaid : Prop := frameBigUptoRow.holds Try.pinned (OpenSpec.upto frameBigSpec)

/-- 'switchboardlaw05.FrameReads', WHERE WHAT IT READS IS OF BULK AT MOST 1048576: true; the input reads as it did. -/
def frameReadsUptoRow : OpenClaim := { program := "ytlnlolhihodgoaa", sum := "5fd4797c067b40c2146edbbb9657616f3a6710d8ec9c657505833316a1a3aa34", func := "switchboard/switchboardlaw05.FrameReads", spec := "frameReads", apart := false, narrowed := true }
def FrameReadsUptoSaid : Prop := frameReadsUptoRow.holds Try.pinned (OpenSpec.upto frameReadsSpec)

/-- 'switchboardlaw05.FrameBack', WHERE WHAT IT READS IS OF BULK AT MOST 1048576: true; the input reads as it did. -/
def frameBackUptoRow : OpenClaim := { program := "ytlnlolhihodgoaa", sum := "5fd4797c067b40c2146edbbb9657616f3a6710d8ec9c657505833316a1a3aa34", func := "switchboard/switchboardlaw05.FrameBack", spec := "frameBack", apart := false, narrowed := true }
def FrameBackUptoSaid : Prop := frameBackUptoRow.holds Try.pinned (OpenSpec.upto frameBackSpec)

/-- 'switchboardlaw05.FrameHead', WHERE WHAT IT READS IS OF BULK AT MOST 1048576: true; the input reads as it did. -/
def frameHeadUptoRow : OpenClaim := { program := "ytlnlolhihodgoaa", sum := "5fd4797c067b40c2146edbbb9657616f3a6710d8ec9c657505833316a1a3aa34", func := "switchboard/switchboardlaw05.FrameHead", spec := "frameHead", apart := false, narrowed := true }
def FrameHeadUptoSaid : Prop := frameHeadUptoRow.holds Try.pinned (OpenSpec.upto frameHeadSpec)

/-- 'switchboardlaw03.PropTakes', WHERE WHAT IT READS IS OF BULK AT MOST 1048576: true; the input reads as it did. -/
def propTakesUptoRow : OpenClaim := { program := "ytlnlolhihodgoaa", sum := "5fd4797c067b40c2146edbbb9657616f3a6710d8ec9c657505833316a1a3aa34", func := "switchboard/switchboardlaw03.PropTakes", spec := "propTakes", apart := false, narrowed := true }
def PropTakesUptoSaid : Prop := propTakesUptoRow.holds Try.pinned (OpenSpec.upto propTakesSpec)

/-- 'switchboardlaw03.PropElse', WHERE WHAT IT READS IS OF BULK AT MOST 1048576: true; the input reads as it did. -/
def propElseUptoRow : OpenClaim := { program := "ytlnlolhihodgoaa", sum := "5fd4797c067b40c2146edbbb9657616f3a6710d8ec9c657505833316a1a3aa34", func := "switchboard/switchboardlaw03.PropElse", spec := "propElse", apart := false, narrowed := true }
def PropElseUptoSaid : Prop := propElseUptoRow.holds Try.pinned (OpenSpec.upto propElseSpec)

/-- 'switchboardlaw03.PropRange', WHERE WHAT IT READS IS OF BULK AT MOST 1048576: true; the input reads as it did. -/
def propRangeUptoRow : OpenClaim := { program := "ytlnlolhihodgoaa", sum := "5fd4797c067b40c2146edbbb9657616f3a6710d8ec9c657505833316a1a3aa34", func := "switchboard/switchboardlaw03.PropRange", spec := "propRange", apart := false, narrowed := true }
def PropRangeUptoSaid : Prop := propRangeUptoRow.holds Try.pinned (OpenSpec.upto propRangeSpec)

/-- 'switchboardlaw03.PropPuts', WHERE WHAT IT READS IS OF BULK AT MOST 1048576: true; the input reads as it did. -/
def propPutsUptoRow : OpenClaim := { program := "ytlnlolhihodgoaa", sum := "5fd4797c067b40c2146edbbb9657616f3a6710d8ec9c657505833316a1a3aa34", func := "switchboard/switchboardlaw03.PropPuts", spec := "propPuts", apart := false, narrowed := true }
def PropPutsUptoSaid : Prop := propPutsUptoRow.holds Try.pinned (OpenSpec.upto propPutsSpec)

/-- 'switchboardlaw03.PropBack', WHERE WHAT IT READS IS OF BULK AT MOST 1048576: true; the input reads as it did. -/
def propBackUptoRow : OpenClaim := { program := "ytlnlolhihodgoaa", sum := "5fd4797c067b40c2146edbbb9657616f3a6710d8ec9c657505833316a1a3aa34", func := "switchboard/switchboardlaw03.PropBack", spec := "propBack", apart := false, narrowed := true }
def PropBackUptoSaid : Prop := propBackUptoRow.holds Try.pinned (OpenSpec.upto propBackSpec)

end Rows
end Go.Proofs.Ytlnlolhihodgoaa
