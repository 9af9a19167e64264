/-
  No cell of these rows narrows 'for every input' (looked for: loops, veiled, ifaces, maps, wideKeys, modest, calm, conditions, laid).
  DERIVED. THE GIVEN ROWS OF THIS SEAT. 6 by the template 'for every input the law returns true; each argument reads behind the call as it read before'; 0 by the template 'total and deterministic' (their statements: YthioageiebchlaaTotals.lean).
  GIVEN WITH THE SEED: the statements are not yours to turn. If you find one false, say at which input.
  Laid BY PROGRAM, IN A SANDBOX (cutbox-rows.mjs): the forced cells as the released guide's own fill.sh prints them over the translation f0fae0e2b1d8c001… (all of the seat's roots in one cut). By AI agents, Wed Nov 11 2026. No macro, syntax, notation, axiom, sorry.
-/
import Derived.Test.YthioageiebchlaaChecked
import GoSem.Claim
import GoSem.ClaimJoined
import GoSem.ClaimMapViews
import Derived.JoinedTies
import Derived.KernelRfl
namespace Go.Proofs.Ythioageiebchlaa
/- THE CELL 'sum', in the pinned program and in every row, IS THE sha256 OF THE DUMP (.gsa) THAT YthioageiebchlaaProg.lean LOADS. Nothing in Lean hashes anything: it is a label: what it is worth is what the hold of that sum in a sandbox is worth. -/
noncomputable def Try.pinned : Pinned := { name := "ythioageiebchlaa", sum := "f0fae0e2b1d8c001ca5f97d585fd90f4fae31752b3092f245b15c60f940c9493", checked := Try.checked }
namespace Rows
def none {H : Type} : Left H := { results := [], args := [] }

/-- 'switchboardlaw08.SubscribeOptions': WHATEVER THE INPUT: true; the input reads as it did. -/
def subscribeOptionsSpec : ChangeSpec := { name := "subscribeOptions", fn := fun _ => fun
  | [d] => { results := [.lit (.bool true)], args := [d] }
  | _ => none }
def subscribeOptionsRow : OpenClaim := { program := "ythioageiebchlaa", sum := "f0fae0e2b1d8c001ca5f97d585fd90f4fae31752b3092f245b15c60f940c9493", func := "switchboard/switchboardlaw08.SubscribeOptions", spec := "subscribeOptions", apart := false }
def SubscribeOptionsSaid : Prop := subscribeOptionsRow.holds Try.pinned (OpenSpec.ofChange subscribeOptionsSpec)

/-- ITS FALSE NEIGHBOUR: 'it returns false'. Refute it at one input. -/
def subscribeOptionsWrong : ChangeSpec := { name := "subscribeOptions", fn := fun _ => fun
  | [d] => { results := [.lit (.bool false)], args := [d] }
  | _ => none }
def SubscribeOptionsWrongFalsely : Prop := subscribeOptionsRow.holds Try.pinned (OpenSpec.ofChange subscribeOptionsWrong)

/-- 'switchboardlaw08.SubscribeWrites': WHATEVER THE INPUT: true; the input reads as it did. -/
def subscribeWritesSpec : ChangeSpec := { name := "subscribeWrites", fn := fun _ => fun
  | [d1, d2] => { results := [.lit (.bool true)], args := [d1, d2] }
  | _ => none }
def subscribeWritesRow : OpenClaim := { program := "ythioageiebchlaa", sum := "f0fae0e2b1d8c001ca5f97d585fd90f4fae31752b3092f245b15c60f940c9493", func := "switchboard/switchboardlaw08.SubscribeWrites", spec := "subscribeWrites", apart := false }
def SubscribeWritesSaid : Prop := subscribeWritesRow.holds Try.pinned (OpenSpec.ofChange subscribeWritesSpec)

/-- ITS FALSE NEIGHBOUR: 'it returns false'. Refute it at one input. -/
def subscribeWritesWrong : ChangeSpec := { name := "subscribeWrites", fn := fun _ => fun
  | [d1, d2] => { results := [.lit (.bool false)], args := [d1, d2] }
  | _ => none }
def SubscribeWritesWrongFalsely : Prop := subscribeWritesRow.holds Try.pinned (OpenSpec.ofChange subscribeWritesWrong)

/-- 'switchboardlaw08.SubscribeBack': WHATEVER THE INPUT: true; the input reads as it did. -/
def subscribeBackSpec : ChangeSpec := { name := "subscribeBack", fn := fun _ => fun
  | [d1, d2] => { results := [.lit (.bool true)], args := [d1, d2] }
  | _ => none }
def subscribeBackRow : OpenClaim := { program := "ythioageiebchlaa", sum := "f0fae0e2b1d8c001ca5f97d585fd90f4fae31752b3092f245b15c60f940c9493", func := "switchboard/switchboardlaw08.SubscribeBack", spec := "subscribeBack", apart := false }
def SubscribeBackSaid : Prop := subscribeBackRow.holds Try.pinned (OpenSpec.ofChange subscribeBackSpec)

/-- ITS FALSE NEIGHBOUR: 'it returns false'. Refute it at one input. -/
def subscribeBackWrong : ChangeSpec := { name := "subscribeBack", fn := fun _ => fun
  | [d1, d2] => { results := [.lit (.bool false)], args := [d1, d2] }
  | _ => none }
def SubscribeBackWrongFalsely : Prop := subscribeBackRow.holds Try.pinned (OpenSpec.ofChange subscribeBackWrong)

/-- 'switchboardlaw08.SubscribeAcks': WHATEVER THE INPUT: true; the input reads as it did. -/
def subscribeAcksSpec : ChangeSpec := { name := "subscribeAcks", fn := fun _ => fun
  | [d1, d2, d3] => { results := [.lit (.bool true)], args := [d1, d2, d3] }
  | _ => none }
def subscribeAcksRow : OpenClaim := { program := "ythioageiebchlaa", sum := "f0fae0e2b1d8c001ca5f97d585fd90f4fae31752b3092f245b15c60f940c9493", func := "switchboard/switchboardlaw08.SubscribeAcks", spec := "subscribeAcks", inPlace := ["internal/bytealg.IndexByteString"], apart := false }
def SubscribeAcksSaid : Prop := subscribeAcksRow.holds Try.pinned (OpenSpec.ofChange subscribeAcksSpec)

/-- ITS FALSE NEIGHBOUR: 'it returns false'. Refute it at one input. -/
def subscribeAcksWrong : ChangeSpec := { name := "subscribeAcks", fn := fun _ => fun
  | [d1, d2, d3] => { results := [.lit (.bool false)], args := [d1, d2, d3] }
  | _ => none }
def SubscribeAcksWrongFalsely : Prop := subscribeAcksRow.holds Try.pinned (OpenSpec.ofChange subscribeAcksWrong)

/-- 'switchboardlaw08.SubscribeReads': WHATEVER THE INPUT: true; the input reads as it did. -/
def subscribeReadsSpec : ChangeSpec := { name := "subscribeReads", fn := fun _ => fun
  | [d1, d2] => { results := [.lit (.bool true)], args := [d1, d2] }
  | _ => none }
def subscribeReadsRow : OpenClaim := { program := "ythioageiebchlaa", sum := "f0fae0e2b1d8c001ca5f97d585fd90f4fae31752b3092f245b15c60f940c9493", func := "switchboard/switchboardlaw08.SubscribeReads", spec := "subscribeReads", inPlace := ["internal/bytealg.IndexByteString"], apart := false }
def SubscribeReadsSaid : Prop := subscribeReadsRow.holds Try.pinned (OpenSpec.ofChange subscribeReadsSpec)

/-- ITS FALSE NEIGHBOUR: 'it returns false'. Refute it at one input. -/
def subscribeReadsWrong : ChangeSpec := { name := "subscribeReads", fn := fun _ => fun
  | [d1, d2] => { results := [.lit (.bool false)], args := [d1, d2] }
  | _ => none }
def SubscribeReadsWrongFalsely : Prop := subscribeReadsRow.holds Try.pinned (OpenSpec.ofChange subscribeReadsWrong)

/-- 'switchboardlaw08.SubscribeOne': WHATEVER THE INPUT: true; the input reads as it did. -/
def subscribeOneSpec : ChangeSpec := { name := "subscribeOne", fn := fun _ => fun
  | [d1, d2] => { results := [.lit (.bool true)], args := [d1, d2] }
  | _ => none }
def subscribeOneRow : OpenClaim := { program := "ythioageiebchlaa", sum := "f0fae0e2b1d8c001ca5f97d585fd90f4fae31752b3092f245b15c60f940c9493", func := "switchboard/switchboardlaw08.SubscribeOne", spec := "subscribeOne", inPlace := ["internal/bytealg.IndexByteString"], apart := false }
def SubscribeOneSaid : Prop := subscribeOneRow.holds Try.pinned (OpenSpec.ofChange subscribeOneSpec)

/-- ITS FALSE NEIGHBOUR: 'it returns false'. Refute it at one input. -/
def subscribeOneWrong : ChangeSpec := { name := "subscribeOne", fn := fun _ => fun
  | [d1, d2] => { results := [.lit (.bool false)], args := [d1, d2] }
  | _ => none }
def SubscribeOneWrongFalsely : Prop := subscribeOneRow.holds Try.pinned (OpenSpec.ofChange subscribeOneWrong)

/- THE SECOND FORM. 'bulk': how many values and letters a reading holds, each counted each time it is reached (what is shared counts as often as it is met; a slice's spare places count too). A statement '..UptoSaid' is the law's where the arguments, and the package variables that the reading takes, are together of bulk at most 1048576: NARROWER than '..Said'. Prove '..Said' where nothing that the law and all that it calls make is longer than what came in: it says more and counts as full. Else prove '..UptoSaid'. A law counts once. -/
mutual
def uptoBulk {H : Type} : DataW H → Nat
  | .lit (.string bytes) => bytes.length + 1
  | .lit _ => 1
  | .nil => 1
  | .ptr d => uptoBulk d + 1
  | .slice elems spare => uptoBulkAll elems + uptoBulkAll spare + 1
  | .agg parts => uptoBulkAll parts + 1
  | .iface _ d => uptoBulk d + 1
  | .map entries => uptoBulkEntries entries + 1
  | .held _ => 1
def uptoBulkAll {H : Type} : List (DataW H) → Nat
  | [] => 0
  | d :: r => uptoBulk d + uptoBulkAll r
def uptoBulkEntries {H : Type} : List (Lit × DataW H) → Nat
  | [] => 0
  | x :: r => uptoBulkEntry x + uptoBulkEntries r
def uptoBulkEntry {H : Type} : Lit × DataW H → Nat
  | (.string bytes, d) => bytes.length + uptoBulk d + 1
  | (_, d) => uptoBulk d + 1
 end
def uptoSmall : (H : Type) → List (DataW H) → Bool := fun _ ds => decide (uptoBulkAll ds ≤ 1048576)
def OpenSpec.upto (s : _root_.Go.ChangeSpec) : _root_.Go.OpenSpec := { _root_.Go.OpenSpec.ofChange s with cond := some uptoSmall }

/-- 'switchboardlaw08.SubscribeOptions', WHERE WHAT IT READS IS OF BULK AT MOST 1048576: true; the input reads as it did. -/
def subscribeOptionsUptoRow : OpenClaim := { program := "ythioageiebchlaa", sum := "f0fae0e2b1d8c001ca5f97d585fd90f4fae31752b3092f245b15c60f940c9493", func := "switchboard/switchboardlaw08.SubscribeOptions", spec := "subscribeOptions", apart := false, narrowed := true }
def SubscribeOptionsUptoSaid : Prop := subscribeOptionsUptoRow.holds Try.pinned (OpenSpec.upto subscribeOptionsSpec)

/-- 'switchboardlaw08.SubscribeWrites', WHERE WHAT IT READS IS OF BULK AT MOST 1048576: true; the input reads as it did. -/
def subscribeWritesUptoRow : OpenClaim := { program := "ythioageiebchlaa", sum := "f0fae0e2b1d8c001ca5f97d585fd90f4fae31752b3092f245b15c60f940c9493", func := "switchboard/switchboardlaw08.SubscribeWrites", spec := "subscribeWrites", apart := false, narrowed := true }
def SubscribeWritesUptoSaid : Prop := subscribeWritesUptoRow.holds Try.pinned (OpenSpec.upto subscribeWritesSpec)

/-- 'switchboardlaw08.SubscribeBack', WHERE WHAT IT READS IS OF BULK AT MOST 1048576: true; the input reads as it did. -/
def subscribeBackUptoRow : OpenClaim := { program := "ythioageiebchlaa", sum := "f0fae0e2b1d8c001ca5f97d585fd90f4fae31752b3092f245b15c60f940c9493", func := "switchboard/switchboardlaw08.SubscribeBack", spec := "subscribeBack", apart := false, narrowed := true }
def SubscribeBackUptoSaid : Prop := subscribeBackUptoRow.holds Try.pinned (OpenSpec.upto subscribeBackSpec)

/-- 'switchboardlaw08.SubscribeAcks', WHERE WHAT IT READS IS OF BULK AT MOST 1048576: true; the input reads as it did. -/
def subscribeAcksUptoRow : OpenClaim := { program := "ythioageiebchlaa", sum := "f0fae0e2b1d8c001ca5f97d585fd90f4fae31752b3092f245b15c60f940c9493", func := "switchboard/switchboardlaw08.SubscribeAcks", spec := "subscribeAcks", inPlace := ["internal/bytealg.IndexByteString"], apart := false, narrowed := true }
def SubscribeAcksUptoSaid : Prop := subscribeAcksUptoRow.holds Try.pinned (OpenSpec.upto subscribeAcksSpec)

/-- 'switchboardlaw08.SubscribeReads', WHERE WHAT IT READS IS OF BULK AT MOST 1048576: true; the input reads as it did. -/
def subscribeReadsUptoRow : OpenClaim := { program := "ythioageiebchlaa", sum := "f0fae0e2b1d8c001ca5f97d585fd90f4fae31752b3092f245b15c60f940c9493", func := "switchboard/switchboardlaw08.SubscribeReads", spec := "subscribeReads", inPlace := ["internal/bytealg.IndexByteString"], apart := false, narrowed := true }
def SubscribeReadsUptoSaid : Prop := subscribeReadsUptoRow.holds Try.pinned (OpenSpec.upto subscribeReadsSpec)

/-- 'switchboardlaw08.SubscribeOne', WHERE WHAT IT READS IS OF BULK AT MOST 1048576: true; the input reads as it did. -/
def subscribeOneUptoRow : OpenClaim := { program := "ythioageiebchlaa", sum := "f0fae0e2b1d8c001ca5f97d585fd90f4fae31752b3092f245b15c60f940c9493", func := "switchboard/switchboardlaw08.SubscribeOne", spec := "subscribeOne", inPlace := ["internal/bytealg.IndexByteString"], apart := false, narrowed := true }
def SubscribeOneUptoSaid : Prop := subscribeOneUptoRow.holds Try.pinned (OpenSpec.upto subscribeOneSpec)

end Rows
end Go.Proofs.Ythioageiebchlaa
