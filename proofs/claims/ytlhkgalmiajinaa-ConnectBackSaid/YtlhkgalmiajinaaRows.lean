/-
  No cell of these rows narrows 'for every input' (looked for: loops, veiled, ifaces, maps, wideKeys, modest, calm, conditions, laid).
  DERIVED. THE GIVEN ROWS OF THIS SEAT. 11 by the template 'for every input the law returns true; each argument reads behind the call as it read before'; 0 by the template 'total and deterministic' (their statements: YtlhkgalmiajinaaTotals.lean).
  GIVEN WITH THE SEED: the statements are not yours to turn. If you find one false, say at which input.
  Laid BY PROGRAM, IN A SANDBOX (cutbox-rows.mjs): the forced cells as the released guide's own fill.sh prints them over the translation a1a6dc98fc12d35b… (all of the seat's roots in one cut). By AI agents, Wed Nov 11 2026. No macro, syntax, notation, axiom, sorry.
-/
import Derived.Test.YtlhkgalmiajinaaChecked
import GoSem.Claim
import GoSem.ClaimJoined
import GoSem.ClaimMapViews
import Derived.JoinedTies
import Derived.KernelRfl
namespace Go.Proofs.Ytlhkgalmiajinaa
/- THE CELL 'sum', in the pinned program and in every row, IS THE sha256 OF THE DUMP (.gsa) THAT YtlhkgalmiajinaaProg.lean LOADS. Nothing in Lean hashes anything: it is a label: what it is worth is what the hold of that sum in a sandbox is worth. -/
noncomputable def Try.pinned : Pinned := { name := "ytlhkgalmiajinaa", sum := "a1a6dc98fc12d35babc096de52a23941a3c0d64dc40e884c2af499a94a6c6ba8", checked := Try.checked }
namespace Rows
def none {H : Type} : Left H := { results := [], args := [] }

/-- 'switchboardlaw07.PublishWrites': WHATEVER THE INPUT: true; the input reads as it did. -/
def publishWritesSpec : ChangeSpec := { name := "publishWrites", fn := fun _ => fun
  | [d1, d2] => { results := [.lit (.bool true)], args := [d1, d2] }
  | _ => none }
def publishWritesRow : OpenClaim := { program := "ytlhkgalmiajinaa", sum := "a1a6dc98fc12d35babc096de52a23941a3c0d64dc40e884c2af499a94a6c6ba8", func := "switchboard/switchboardlaw07.PublishWrites", spec := "publishWrites", apart := false }
def PublishWritesSaid : Prop := publishWritesRow.holds Try.pinned (OpenSpec.ofChange publishWritesSpec)

/-- ITS FALSE NEIGHBOUR: 'it returns false'. Refute it at one input. -/
def publishWritesWrong : ChangeSpec := { name := "publishWrites", fn := fun _ => fun
  | [d1, d2] => { results := [.lit (.bool false)], args := [d1, d2] }
  | _ => none }
def PublishWritesWrongFalsely : Prop := publishWritesRow.holds Try.pinned (OpenSpec.ofChange publishWritesWrong)

/-- 'switchboardlaw06.ConnectBack': WHATEVER THE INPUT: true; the input reads as it did. -/
def connectBackSpec : ChangeSpec := { name := "connectBack", fn := fun _ => fun
  | [d1, d2] => { results := [.lit (.bool true)], args := [d1, d2] }
  | _ => none }
def connectBackRow : OpenClaim := { program := "ytlhkgalmiajinaa", sum := "a1a6dc98fc12d35babc096de52a23941a3c0d64dc40e884c2af499a94a6c6ba8", func := "switchboard/switchboardlaw06.ConnectBack", spec := "connectBack", apart := false }
def ConnectBackSaid : Prop := connectBackRow.holds Try.pinned (OpenSpec.ofChange connectBackSpec)

/-- ITS FALSE NEIGHBOUR: 'it returns false'. Refute it at one input. -/
def connectBackWrong : ChangeSpec := { name := "connectBack", fn := fun _ => fun
  | [d1, d2] => { results := [.lit (.bool false)], args := [d1, d2] }
  | _ => none }
def ConnectBackWrongFalsely : Prop := connectBackRow.holds Try.pinned (OpenSpec.ofChange connectBackWrong)

/-- 'switchboardlaw06.ConnectFlags': WHATEVER THE INPUT: true; the input reads as it did. -/
def connectFlagsSpec : ChangeSpec := { name := "connectFlags", fn := fun _ => fun
  | [d] => { results := [.lit (.bool true)], args := [d] }
  | _ => none }
def connectFlagsRow : OpenClaim := { program := "ytlhkgalmiajinaa", sum := "a1a6dc98fc12d35babc096de52a23941a3c0d64dc40e884c2af499a94a6c6ba8", func := "switchboard/switchboardlaw06.ConnectFlags", spec := "connectFlags", apart := false }
def ConnectFlagsSaid : Prop := connectFlagsRow.holds Try.pinned (OpenSpec.ofChange connectFlagsSpec)

/-- ITS FALSE NEIGHBOUR: 'it returns false'. Refute it at one input. -/
def connectFlagsWrong : ChangeSpec := { name := "connectFlags", fn := fun _ => fun
  | [d] => { results := [.lit (.bool false)], args := [d] }
  | _ => none }
def ConnectFlagsWrongFalsely : Prop := connectFlagsRow.holds Try.pinned (OpenSpec.ofChange connectFlagsWrong)

/-- 'switchboardlaw06.ConnectWrites': WHATEVER THE INPUT: true; the input reads as it did. -/
def connectWritesSpec : ChangeSpec := { name := "connectWrites", fn := fun _ => fun
  | [d1, d2] => { results := [.lit (.bool true)], args := [d1, d2] }
  | _ => none }
def connectWritesRow : OpenClaim := { program := "ytlhkgalmiajinaa", sum := "a1a6dc98fc12d35babc096de52a23941a3c0d64dc40e884c2af499a94a6c6ba8", func := "switchboard/switchboardlaw06.ConnectWrites", spec := "connectWrites", apart := false }
def ConnectWritesSaid : Prop := connectWritesRow.holds Try.pinned (OpenSpec.ofChange connectWritesSpec)

/-- ITS FALSE NEIGHBOUR: 'it returns false'. Refute it at one input. -/
def connectWritesWrong : ChangeSpec := { name := "connectWrites", fn := fun _ => fun
  | [d1, d2] => { results := [.lit (.bool false)], args := [d1, d2] }
  | _ => none }
def ConnectWritesWrongFalsely : Prop := connectWritesRow.holds Try.pinned (OpenSpec.ofChange connectWritesWrong)

/-- 'switchboardlaw07.PublishOne': WHATEVER THE INPUT: true; the input reads as it did. -/
def publishOneSpec : ChangeSpec := { name := "publishOne", fn := fun _ => fun
  | [d1, d2] => { results := [.lit (.bool true)], args := [d1, d2] }
  | _ => none }
def publishOneRow : OpenClaim := { program := "ytlhkgalmiajinaa", sum := "a1a6dc98fc12d35babc096de52a23941a3c0d64dc40e884c2af499a94a6c6ba8", func := "switchboard/switchboardlaw07.PublishOne", spec := "publishOne", apart := false }
def PublishOneSaid : Prop := publishOneRow.holds Try.pinned (OpenSpec.ofChange publishOneSpec)

/-- ITS FALSE NEIGHBOUR: 'it returns false'. Refute it at one input. -/
def publishOneWrong : ChangeSpec := { name := "publishOne", fn := fun _ => fun
  | [d1, d2] => { results := [.lit (.bool false)], args := [d1, d2] }
  | _ => none }
def PublishOneWrongFalsely : Prop := publishOneRow.holds Try.pinned (OpenSpec.ofChange publishOneWrong)

/-- 'switchboardlaw07.PublishShort': WHATEVER THE INPUT: true; the input reads as it did. -/
def publishShortSpec : ChangeSpec := { name := "publishShort", fn := fun _ => fun
  | [d1, d2] => { results := [.lit (.bool true)], args := [d1, d2] }
  | _ => none }
def publishShortRow : OpenClaim := { program := "ytlhkgalmiajinaa", sum := "a1a6dc98fc12d35babc096de52a23941a3c0d64dc40e884c2af499a94a6c6ba8", func := "switchboard/switchboardlaw07.PublishShort", spec := "publishShort", inPlace := ["internal/bytealg.IndexByteString"], apart := false }
def PublishShortSaid : Prop := publishShortRow.holds Try.pinned (OpenSpec.ofChange publishShortSpec)

/-- ITS FALSE NEIGHBOUR: 'it returns false'. Refute it at one input. -/
def publishShortWrong : ChangeSpec := { name := "publishShort", fn := fun _ => fun
  | [d1, d2] => { results := [.lit (.bool false)], args := [d1, d2] }
  | _ => none }
def PublishShortWrongFalsely : Prop := publishShortRow.holds Try.pinned (OpenSpec.ofChange publishShortWrong)

/-- 'switchboardlaw07.PublishZero': WHATEVER THE INPUT: true; the input reads as it did. -/
def publishZeroSpec : ChangeSpec := { name := "publishZero", fn := fun _ => fun
  | [d1, d2] => { results := [.lit (.bool true)], args := [d1, d2] }
  | _ => none }
def publishZeroRow : OpenClaim := { program := "ytlhkgalmiajinaa", sum := "a1a6dc98fc12d35babc096de52a23941a3c0d64dc40e884c2af499a94a6c6ba8", func := "switchboard/switchboardlaw07.PublishZero", spec := "publishZero", inPlace := ["internal/bytealg.IndexByteString"], apart := false }
def PublishZeroSaid : Prop := publishZeroRow.holds Try.pinned (OpenSpec.ofChange publishZeroSpec)

/-- ITS FALSE NEIGHBOUR: 'it returns false'. Refute it at one input. -/
def publishZeroWrong : ChangeSpec := { name := "publishZero", fn := fun _ => fun
  | [d1, d2] => { results := [.lit (.bool false)], args := [d1, d2] }
  | _ => none }
def PublishZeroWrongFalsely : Prop := publishZeroRow.holds Try.pinned (OpenSpec.ofChange publishZeroWrong)

/-- 'switchboardlaw06.ConnectReads': WHATEVER THE INPUT: true; the input reads as it did. -/
def connectReadsSpec : ChangeSpec := { name := "connectReads", fn := fun _ => fun
  | [d] => { results := [.lit (.bool true)], args := [d] }
  | _ => none }
def connectReadsRow : OpenClaim := { program := "ytlhkgalmiajinaa", sum := "a1a6dc98fc12d35babc096de52a23941a3c0d64dc40e884c2af499a94a6c6ba8", func := "switchboard/switchboardlaw06.ConnectReads", spec := "connectReads", inPlace := ["internal/bytealg.IndexByteString"], apart := false }
def ConnectReadsSaid : Prop := connectReadsRow.holds Try.pinned (OpenSpec.ofChange connectReadsSpec)

/-- ITS FALSE NEIGHBOUR: 'it returns false'. Refute it at one input. -/
def connectReadsWrong : ChangeSpec := { name := "connectReads", fn := fun _ => fun
  | [d] => { results := [.lit (.bool false)], args := [d] }
  | _ => none }
def ConnectReadsWrongFalsely : Prop := connectReadsRow.holds Try.pinned (OpenSpec.ofChange connectReadsWrong)

/-- 'switchboardlaw06.ConnectOne': WHATEVER THE INPUT: true; the input reads as it did. -/
def connectOneSpec : ChangeSpec := { name := "connectOne", fn := fun _ => fun
  | [d] => { results := [.lit (.bool true)], args := [d] }
  | _ => none }
def connectOneRow : OpenClaim := { program := "ytlhkgalmiajinaa", sum := "a1a6dc98fc12d35babc096de52a23941a3c0d64dc40e884c2af499a94a6c6ba8", func := "switchboard/switchboardlaw06.ConnectOne", spec := "connectOne", inPlace := ["internal/bytealg.IndexByteString"], apart := false }
def ConnectOneSaid : Prop := connectOneRow.holds Try.pinned (OpenSpec.ofChange connectOneSpec)

/-- ITS FALSE NEIGHBOUR: 'it returns false'. Refute it at one input. -/
def connectOneWrong : ChangeSpec := { name := "connectOne", fn := fun _ => fun
  | [d] => { results := [.lit (.bool false)], args := [d] }
  | _ => none }
def ConnectOneWrongFalsely : Prop := connectOneRow.holds Try.pinned (OpenSpec.ofChange connectOneWrong)

/-- 'switchboardlaw07.PublishReads': WHATEVER THE INPUT: true; the input reads as it did. -/
def publishReadsSpec : ChangeSpec := { name := "publishReads", fn := fun _ => fun
  | [d1, d2, d3] => { results := [.lit (.bool true)], args := [d1, d2, d3] }
  | _ => none }
def publishReadsRow : OpenClaim := { program := "ytlhkgalmiajinaa", sum := "a1a6dc98fc12d35babc096de52a23941a3c0d64dc40e884c2af499a94a6c6ba8", func := "switchboard/switchboardlaw07.PublishReads", spec := "publishReads", inPlace := ["internal/bytealg.IndexByteString"], apart := false }
def PublishReadsSaid : Prop := publishReadsRow.holds Try.pinned (OpenSpec.ofChange publishReadsSpec)

/-- ITS FALSE NEIGHBOUR: 'it returns false'. Refute it at one input. -/
def publishReadsWrong : ChangeSpec := { name := "publishReads", fn := fun _ => fun
  | [d1, d2, d3] => { results := [.lit (.bool false)], args := [d1, d2, d3] }
  | _ => none }
def PublishReadsWrongFalsely : Prop := publishReadsRow.holds Try.pinned (OpenSpec.ofChange publishReadsWrong)

/-- 'switchboardlaw07.PublishBack': WHATEVER THE INPUT: true; the input reads as it did. -/
def publishBackSpec : ChangeSpec := { name := "publishBack", fn := fun _ => fun
  | [d1, d2, d3, d4, d5] => { results := [.lit (.bool true)], args := [d1, d2, d3, d4, d5] }
  | _ => none }
def publishBackRow : OpenClaim := { program := "ytlhkgalmiajinaa", sum := "a1a6dc98fc12d35babc096de52a23941a3c0d64dc40e884c2af499a94a6c6ba8", func := "switchboard/switchboardlaw07.PublishBack", spec := "publishBack", inPlace := ["internal/bytealg.IndexByteString"], apart := false }
def PublishBackSaid : Prop := publishBackRow.holds Try.pinned (OpenSpec.ofChange publishBackSpec)

/-- ITS FALSE NEIGHBOUR: 'it returns false'. Refute it at one input. -/
def publishBackWrong : ChangeSpec := { name := "publishBack", fn := fun _ => fun
  | [d1, d2, d3, d4, d5] => { results := [.lit (.bool false)], args := [d1, d2, d3, d4, d5] }
  | _ => none }
def PublishBackWrongFalsely : Prop := publishBackRow.holds Try.pinned (OpenSpec.ofChange publishBackWrong)

/- THE SECOND FORM. 'bulk': how many values and letters a reading holds, each counted each time it is reached (what is shared counts as often as it is met; a slice's spare places count too). A statement '..UptoSaid' is the law's where the arguments, and the package variables that the reading takes, are together of bulk at most 1048576: NARROWER than '..Said'. Prove '..Said' where nothing that the law and all that it calls make is longer than what came in: it says more and counts as full. Else prove '..UptoSaid'. A law counts once. -/
mutual
def uptoBulk {H : Type} : DataW H → Nat
  | .lit (.string bytes) => bytes.length + 1
  | .lit _ => 1
  | .nil => 1
  | .ptr d => uptoBulk d + 1
  | .slice elems spare => uptoBulkAll elems + uptoBulkAll spare + 1
  | .agg parts => uptoBulkAll parts + 1
  | .iface _ d => uptoBulk d + 1
  | .map entries => uptoBulkEntries entries + 1
  | .held _ => 1
def uptoBulkAll {H : Type} : List (DataW H) → Nat
  | [] => 0
  | d :: r => uptoBulk d + uptoBulkAll r
def uptoBulkEntries {H : Type} : List (Lit × DataW H) → Nat
  | [] => 0
  | x :: r => uptoBulkEntry x + uptoBulkEntries r
def uptoBulkEntry {H : Type} : Lit × DataW H → Nat
  | (.string bytes, d) => bytes.length + uptoBulk d + 1
  | (_, d) => uptoBulk d + 1
 end
def uptoSmall : (H : Type) → List (DataW H) → Bool := fun _ ds => decide (uptoBulkAll ds ≤ 1048576)
def OpenSpec.upto (s : _root_.Go.ChangeSpec) : _root_.Go.OpenSpec := { _root_.Go.OpenSpec.ofChange s with cond := some uptoSmall }

/-- 'switchboardlaw07.PublishWrites', WHERE WHAT IT READS IS OF BULK AT MOST 1048576: true; the input reads as it did. -/
def publishWritesUptoRow : OpenClaim := { program := "ytlhkgalmiajinaa", sum := "a1a6dc98fc12d35babc096de52a23941a3c0d64dc40e884c2af499a94a6c6ba8", func := "switchboard/switchboardlaw07.PublishWrites", spec := "publishWrites", apart := false, narrowed := true }
def PublishWritesUptoSaid : Prop := publishWritesUptoRow.holds Try.pinned (OpenSpec.upto publishWritesSpec)

/-- 'switchboardlaw06.ConnectBack', WHERE WHAT IT READS IS OF BULK AT MOST 1048576: true; the input reads as it did. -/
def connectBackUptoRow : OpenClaim := { program := "ytlhkgalmiajinaa", sum := "a1a6dc98fc12d35babc096de52a23941a3c0d64dc40e884c2af499a94a6c6ba8", func := "switchboard/switchboardlaw06.ConnectBack", spec := "connectBack", apart := false, narrowed := true }
def ConnectBackUptoSaid : Prop := connectBackUptoRow.holds Try.pinned (OpenSpec.upto connectBackSpec)

/-- 'switchboardlaw06.ConnectFlags', WHERE WHAT IT READS IS OF BULK AT MOST 1048576: true; the input reads as it did. -/
def connectFlagsUptoRow : OpenClaim := { program := "ytlhkgalmiajinaa", sum := "a1a6dc98fc12d35babc096de52a23941a3c0d64dc40e884c2af499a94a6c6ba8", func := "switchboard/switchboardlaw06.ConnectFlags", spec := "connectFlags", apart := false, narrowed := true }
def ConnectFlagsUptoSaid : Prop := connectFlagsUptoRow.holds Try.pinned (OpenSpec.upto connectFlagsSpec)

/-- 'switchboardlaw06.ConnectWrites', WHERE WHAT IT READS IS OF BULK AT MOST 1048576: true; the input reads as it did. -/
def connectWritesUptoRow : OpenClaim := { program := "ytlhkgalmiajinaa", sum := "a1a6dc98fc12d35babc096de52a23941a3c0d64dc40e884c2af499a94a6c6ba8", func := "switchboard/switchboardlaw06.ConnectWrites", spec := "connectWrites", apart := false, narrowed := true }
def ConnectWritesUptoSaid : Prop := connectWritesUptoRow.holds Try.pinned (OpenSpec.upto connectWritesSpec)

/-- 'switchboardlaw07.PublishOne', WHERE WHAT IT READS IS OF BULK AT MOST 1048576: true; the input reads as it did. -/
def publishOneUptoRow : OpenClaim := { program := "ytlhkgalmiajinaa", sum := "a1a6dc98fc12d35babc096de52a23941a3c0d64dc40e884c2af499a94a6c6ba8", func := "switchboard/switchboardlaw07.PublishOne", spec := "publishOne", apart := false, narrowed := true }
def PublishOneUptoSaid : Prop := publishOneUptoRow.holds Try.pinned (OpenSpec.upto publishOneSpec)

/-- 'switchboardlaw07.PublishShort', WHERE WHAT IT READS IS OF BULK AT MOST 1048576: true; the input reads as it did. -/
def publishShortUptoRow : OpenClaim := { program := "ytlhkgalmiajinaa", sum := "a1a6dc98fc12d35babc096de52a23941a3c0d64dc40e884c2af499a94a6c6ba8", func := "switchboard/switchboardlaw07.PublishShort", spec := "publishShort", inPlace := ["internal/bytealg.IndexByteString"], apart := false, narrowed := true }
def PublishShortUptoSaid : Prop := publishShortUptoRow.holds Try.pinned (OpenSpec.upto publishShortSpec)

/-- 'switchboardlaw07.PublishZero', WHERE WHAT IT READS IS OF BULK AT MOST 1048576: true; the input reads as it did. -/
def publishZeroUptoRow : OpenClaim := { program := "ytlhkgalmiajinaa", sum := "a1a6dc98fc12d35babc096de52a23941a3c0d64dc40e884c2af499a94a6c6ba8", func := "switchboard/switchboardlaw07.PublishZero", spec := "publishZero", inPlace := ["internal/bytealg.IndexByteString"], apart := false, narrowed := true }
def PublishZeroUptoSaid : Prop := publishZeroUptoRow.holds Try.pinned (OpenSpec.upto publishZeroSpec)

/-- 'switchboardlaw06.ConnectReads', WHERE WHAT IT READS IS OF BULK AT MOST 1048576: true; the input reads as it did. -/
def connectReadsUptoRow : OpenClaim := { program := "ytlhkgalmiajinaa", sum := "a1a6dc98fc12d35babc096de52a23941a3c0d64dc40e884c2af499a94a6c6ba8", func := "switchboard/switchboardlaw06.ConnectReads", spec := "connectReads", inPlace := ["internal/bytealg.IndexByteString"], apart := false, narrowed := true }
def ConnectReadsUptoSaid : Prop := connectReadsUptoRow.holds Try.pinned (OpenSpec.upto connectReadsSpec)

/-- 'switchboardlaw06.ConnectOne', WHERE WHAT IT READS IS OF BULK AT MOST 1048576: true; the input reads as it did. -/
def connectOneUptoRow : OpenClaim := { program := "ytlhkgalmiajinaa", sum := "a1a6dc98fc12d35babc096de52a23941a3c0d64dc40e884c2af499a94a6c6ba8", func := "switchboard/switchboardlaw06.ConnectOne", spec := "connectOne", inPlace := ["internal/bytealg.IndexByteString"], apart := false, narrowed := true }
def ConnectOneUptoSaid : Prop := connectOneUptoRow.holds Try.pinned (OpenSpec.upto connectOneSpec)

/-- 'switchboardlaw07.PublishReads', WHERE WHAT IT READS IS OF BULK AT MOST 1048576: true; the input reads as it did. -/
def publishReadsUptoRow : OpenClaim := { program := "ytlhkgalmiajinaa", sum := "a1a6dc98fc12d35babc096de52a23941a3c0d64dc40e884c2af499a94a6c6ba8", func := "switchboard/switchboardlaw07.PublishReads", spec := "publishReads", inPlace := ["internal/bytealg.IndexByteString"], apart := false, narrowed := true }
def PublishReadsUptoSaid : Prop := publishReadsUptoRow.holds Try.pinned (OpenSpec.upto publishReadsSpec)

/-- 'switchboardlaw07.PublishBack', WHERE WHAT IT READS IS OF BULK AT MOST 1048576: true; the input reads as it did. -/
def publishBackUptoRow : OpenClaim := { program := "ytlhkgalmiajinaa", sum := "a1a6dc98fc12d35babc096de52a23941a3c0d64dc40e884c2af499a94a6c6ba8", func := "switchboard/switchboardlaw07.PublishBack", spec := "publishBack", inPlace := ["internal/bytealg.IndexByteString"], apart := false, narrowed := true }
def PublishBackUptoSaid : Prop := publishBackUptoRow.holds Try.pinned (OpenSpec.upto publishBackSpec)

end Rows
end Go.Proofs.Ytlhkgalmiajinaa
