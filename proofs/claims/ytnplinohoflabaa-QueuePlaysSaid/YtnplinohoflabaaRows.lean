/-
  No cell of these rows narrows 'for every input' (looked for: loops, veiled, ifaces, maps, wideKeys, modest, calm, conditions, laid).
  DERIVED. THE GIVEN ROWS OF THIS SEAT. 10 by the template 'for every input the law returns true; each argument reads behind the call as it read before'; 0 by the template 'total and deterministic' (their statements: YtnplinohoflabaaTotals.lean).
  GIVEN WITH THE SEED: the statements are not yours to turn. If you find one false, say at which input.
  Laid BY PROGRAM, IN A SANDBOX (cutbox-rows.mjs): the forced cells as the released guide's own fill.sh prints them over the translation 77670f7ed5174176… (all of the seat's roots in one cut). By AI agents, Wed Nov 11 2026. No macro, syntax, notation, axiom, sorry.
-/
import Derived.Test.YtnplinohoflabaaChecked
import GoSem.Claim
import GoSem.ClaimJoined
import GoSem.ClaimMapViews
import Derived.JoinedTies
import Derived.KernelRfl
namespace Go.Proofs.Ytnplinohoflabaa
/- THE CELL 'sum', in the pinned program and in every row, IS THE sha256 OF THE DUMP (.gsa) THAT YtnplinohoflabaaProg.lean LOADS. Nothing in Lean hashes anything: it is a label: what it is worth is what the hold of that sum in a sandbox is worth. -/
noncomputable def Try.pinned : Pinned := { name := "ytnplinohoflabaa", sum := "77670f7ed5174176e175f4c30c37d068c9d2c43c5c4375f84a47507c3923fb9b", checked := Try.checked }
namespace Rows
def none {H : Type} : Left H := { results := [], args := [] }

/-- 'switchboardlaw16.QueueHeavy': WHATEVER THE INPUT: true; the input reads as it did. -/
def queueHeavySpec : ChangeSpec := { name := "queueHeavy", fn := fun _ => fun
  | [d1, d2] => { results := [.lit (.bool true)], args := [d1, d2] }
  | _ => none }
def queueHeavyRow : OpenClaim := { program := "ytnplinohoflabaa", sum := "77670f7ed5174176e175f4c30c37d068c9d2c43c5c4375f84a47507c3923fb9b", func := "switchboard/switchboardlaw16.QueueHeavy", spec := "queueHeavy", unfollowed := true, recurses := true, apart := false }
def QueueHeavySaid : Prop := queueHeavyRow.holds Try.pinned (OpenSpec.ofChange queueHeavySpec)

/-- ITS FALSE NEIGHBOUR: 'it returns false'. Refute it at one input. -/
def queueHeavyWrong : ChangeSpec := { name := "queueHeavy", fn := fun _ => fun
  | [d1, d2] => { results := [.lit (.bool false)], args := [d1, d2] }
  | _ => none }
def QueueHeavyWrongFalsely : Prop := queueHeavyRow.holds Try.pinned (OpenSpec.ofChange queueHeavyWrong)

/-- 'switchboardlaw16.QueueRoom': WHATEVER THE INPUT: true; the input reads as it did. -/
def queueRoomSpec : ChangeSpec := { name := "queueRoom", fn := fun _ => fun
  | [d] => { results := [.lit (.bool true)], args := [d] }
  | _ => none }
def queueRoomRow : OpenClaim := { program := "ytnplinohoflabaa", sum := "77670f7ed5174176e175f4c30c37d068c9d2c43c5c4375f84a47507c3923fb9b", func := "switchboard/switchboardlaw16.QueueRoom", spec := "queueRoom", unfollowed := true, recurses := true, apart := false }
def QueueRoomSaid : Prop := queueRoomRow.holds Try.pinned (OpenSpec.ofChange queueRoomSpec)

/-- ITS FALSE NEIGHBOUR: 'it returns false'. Refute it at one input. -/
def queueRoomWrong : ChangeSpec := { name := "queueRoom", fn := fun _ => fun
  | [d] => { results := [.lit (.bool false)], args := [d] }
  | _ => none }
def QueueRoomWrongFalsely : Prop := queueRoomRow.holds Try.pinned (OpenSpec.ofChange queueRoomWrong)

/-- 'switchboardlaw16.QueueOrder': WHATEVER THE INPUT: true; the input reads as it did. -/
def queueOrderSpec : ChangeSpec := { name := "queueOrder", fn := fun _ => fun
  | [d1, d2] => { results := [.lit (.bool true)], args := [d1, d2] }
  | _ => none }
def queueOrderRow : OpenClaim := { program := "ytnplinohoflabaa", sum := "77670f7ed5174176e175f4c30c37d068c9d2c43c5c4375f84a47507c3923fb9b", func := "switchboard/switchboardlaw16.QueueOrder", spec := "queueOrder", unfollowed := true, recurses := true, apart := false }
def QueueOrderSaid : Prop := queueOrderRow.holds Try.pinned (OpenSpec.ofChange queueOrderSpec)

/-- ITS FALSE NEIGHBOUR: 'it returns false'. Refute it at one input. -/
def queueOrderWrong : ChangeSpec := { name := "queueOrder", fn := fun _ => fun
  | [d1, d2] => { results := [.lit (.bool false)], args := [d1, d2] }
  | _ => none }
def QueueOrderWrongFalsely : Prop := queueOrderRow.holds Try.pinned (OpenSpec.ofChange queueOrderWrong)

/-- 'switchboardlaw16.QueueExpires': WHATEVER THE INPUT: true; the input reads as it did. -/
def queueExpiresSpec : ChangeSpec := { name := "queueExpires", fn := fun _ => fun
  | [d1, d2, d3] => { results := [.lit (.bool true)], args := [d1, d2, d3] }
  | _ => none }
def queueExpiresRow : OpenClaim := { program := "ytnplinohoflabaa", sum := "77670f7ed5174176e175f4c30c37d068c9d2c43c5c4375f84a47507c3923fb9b", func := "switchboard/switchboardlaw16.QueueExpires", spec := "queueExpires", unfollowed := true, recurses := true, apart := false }
def QueueExpiresSaid : Prop := queueExpiresRow.holds Try.pinned (OpenSpec.ofChange queueExpiresSpec)

/-- ITS FALSE NEIGHBOUR: 'it returns false'. Refute it at one input. -/
def queueExpiresWrong : ChangeSpec := { name := "queueExpires", fn := fun _ => fun
  | [d1, d2, d3] => { results := [.lit (.bool false)], args := [d1, d2, d3] }
  | _ => none }
def QueueExpiresWrongFalsely : Prop := queueExpiresRow.holds Try.pinned (OpenSpec.ofChange queueExpiresWrong)

/-- 'switchboardlaw16.QueuePlays': WHATEVER THE INPUT: true; the input reads as it did. -/
def queuePlaysSpec : ChangeSpec := { name := "queuePlays", fn := fun _ => fun
  | [d1, d2] => { results := [.lit (.bool true)], args := [d1, d2] }
  | _ => none }
def queuePlaysRow : OpenClaim := { program := "ytnplinohoflabaa", sum := "77670f7ed5174176e175f4c30c37d068c9d2c43c5c4375f84a47507c3923fb9b", func := "switchboard/switchboardlaw16.QueuePlays", spec := "queuePlays", unfollowed := true, recurses := true, apart := false }
def QueuePlaysSaid : Prop := queuePlaysRow.holds Try.pinned (OpenSpec.ofChange queuePlaysSpec)

/-- ITS FALSE NEIGHBOUR: 'it returns false'. Refute it at one input. -/
def queuePlaysWrong : ChangeSpec := { name := "queuePlays", fn := fun _ => fun
  | [d1, d2] => { results := [.lit (.bool false)], args := [d1, d2] }
  | _ => none }
def QueuePlaysWrongFalsely : Prop := queuePlaysRow.holds Try.pinned (OpenSpec.ofChange queuePlaysWrong)

/-- 'switchboardlaw15.WindowEnds': WHATEVER THE INPUT: true; the input reads as it did. -/
def windowEndsSpec : ChangeSpec := { name := "windowEnds", fn := fun _ => fun
  | [d1, d2] => { results := [.lit (.bool true)], args := [d1, d2] }
  | _ => none }
def windowEndsRow : OpenClaim := { program := "ytnplinohoflabaa", sum := "77670f7ed5174176e175f4c30c37d068c9d2c43c5c4375f84a47507c3923fb9b", func := "switchboard/switchboardlaw15.WindowEnds", spec := "windowEnds", unfollowed := true, recurses := true, apart := false }
def WindowEndsSaid : Prop := windowEndsRow.holds Try.pinned (OpenSpec.ofChange windowEndsSpec)

/-- ITS FALSE NEIGHBOUR: 'it returns false'. Refute it at one input. -/
def windowEndsWrong : ChangeSpec := { name := "windowEnds", fn := fun _ => fun
  | [d1, d2] => { results := [.lit (.bool false)], args := [d1, d2] }
  | _ => none }
def WindowEndsWrongFalsely : Prop := windowEndsRow.holds Try.pinned (OpenSpec.ofChange windowEndsWrong)

/-- 'switchboardlaw15.WindowResumes': WHATEVER THE INPUT: true; the input reads as it did. -/
def windowResumesSpec : ChangeSpec := { name := "windowResumes", fn := fun _ => fun
  | [d1, d2] => { results := [.lit (.bool true)], args := [d1, d2] }
  | _ => none }
def windowResumesRow : OpenClaim := { program := "ytnplinohoflabaa", sum := "77670f7ed5174176e175f4c30c37d068c9d2c43c5c4375f84a47507c3923fb9b", func := "switchboard/switchboardlaw15.WindowResumes", spec := "windowResumes", unfollowed := true, recurses := true, apart := false }
def WindowResumesSaid : Prop := windowResumesRow.holds Try.pinned (OpenSpec.ofChange windowResumesSpec)

/-- ITS FALSE NEIGHBOUR: 'it returns false'. Refute it at one input. -/
def windowResumesWrong : ChangeSpec := { name := "windowResumes", fn := fun _ => fun
  | [d1, d2] => { results := [.lit (.bool false)], args := [d1, d2] }
  | _ => none }
def WindowResumesWrongFalsely : Prop := windowResumesRow.holds Try.pinned (OpenSpec.ofChange windowResumesWrong)

/-- 'switchboardlaw15.WindowPlays': WHATEVER THE INPUT: true; the input reads as it did. -/
def windowPlaysSpec : ChangeSpec := { name := "windowPlays", fn := fun _ => fun
  | [d1, d2] => { results := [.lit (.bool true)], args := [d1, d2] }
  | _ => none }
def windowPlaysRow : OpenClaim := { program := "ytnplinohoflabaa", sum := "77670f7ed5174176e175f4c30c37d068c9d2c43c5c4375f84a47507c3923fb9b", func := "switchboard/switchboardlaw15.WindowPlays", spec := "windowPlays", unfollowed := true, recurses := true, apart := false }
def WindowPlaysSaid : Prop := windowPlaysRow.holds Try.pinned (OpenSpec.ofChange windowPlaysSpec)

/-- ITS FALSE NEIGHBOUR: 'it returns false'. Refute it at one input. -/
def windowPlaysWrong : ChangeSpec := { name := "windowPlays", fn := fun _ => fun
  | [d1, d2] => { results := [.lit (.bool false)], args := [d1, d2] }
  | _ => none }
def WindowPlaysWrongFalsely : Prop := windowPlaysRow.holds Try.pinned (OpenSpec.ofChange windowPlaysWrong)

/-- 'switchboardlaw15.WindowOnce': WHATEVER THE INPUT: true; the input reads as it did. -/
def windowOnceSpec : ChangeSpec := { name := "windowOnce", fn := fun _ => fun
  | [d1, d2] => { results := [.lit (.bool true)], args := [d1, d2] }
  | _ => none }
def windowOnceRow : OpenClaim := { program := "ytnplinohoflabaa", sum := "77670f7ed5174176e175f4c30c37d068c9d2c43c5c4375f84a47507c3923fb9b", func := "switchboard/switchboardlaw15.WindowOnce", spec := "windowOnce", unfollowed := true, recurses := true, apart := false }
def WindowOnceSaid : Prop := windowOnceRow.holds Try.pinned (OpenSpec.ofChange windowOnceSpec)

/-- ITS FALSE NEIGHBOUR: 'it returns false'. Refute it at one input. -/
def windowOnceWrong : ChangeSpec := { name := "windowOnce", fn := fun _ => fun
  | [d1, d2] => { results := [.lit (.bool false)], args := [d1, d2] }
  | _ => none }
def WindowOnceWrongFalsely : Prop := windowOnceRow.holds Try.pinned (OpenSpec.ofChange windowOnceWrong)

/-- 'switchboardlaw15.WindowWrong': WHATEVER THE INPUT: true; the input reads as it did. -/
def windowWrongSpec : ChangeSpec := { name := "windowWrong", fn := fun _ => fun
  | [d1, d2, d3] => { results := [.lit (.bool true)], args := [d1, d2, d3] }
  | _ => none }
def windowWrongRow : OpenClaim := { program := "ytnplinohoflabaa", sum := "77670f7ed5174176e175f4c30c37d068c9d2c43c5c4375f84a47507c3923fb9b", func := "switchboard/switchboardlaw15.WindowWrong", spec := "windowWrong", unfollowed := true, recurses := true, apart := false }
def WindowWrongSaid : Prop := windowWrongRow.holds Try.pinned (OpenSpec.ofChange windowWrongSpec)

/-- ITS FALSE NEIGHBOUR: 'it returns false'. Refute it at one input. -/
def windowWrongWrong : ChangeSpec := { name := "windowWrong", fn := fun _ => fun
  | [d1, d2, d3] => { results := [.lit (.bool false)], args := [d1, d2, d3] }
  | _ => none }
def WindowWrongWrongFalsely : Prop := windowWrongRow.holds Try.pinned (OpenSpec.ofChange windowWrongWrong)

/- THE SECOND FORM. 'bulk': how many values and letters a reading holds, each counted each time it is reached (what is shared counts as often as it is met; a slice's spare places count too). A statement '..UptoSaid' is the law's where the arguments, and the package variables that the reading takes, are together of bulk at most 1048576: NARROWER than '..Said'. Prove '..Said' where nothing that the law and all that it calls make is longer than what came in: it says more and counts as full. Else prove '..UptoSaid'. A law counts once. -/
mutual
def uptoBulk {H : Type} : DataW H → Nat
  | .lit (.string bytes) => bytes.length + 1
  | .lit _ => 1
  | .nil => 1
  | .ptr d => uptoBulk d + 1
  | .slice elems spare => uptoBulkAll elems + uptoBulkAll spare + 1
  | .agg parts => uptoBulkAll parts + 1
  | .iface _ d => uptoBulk d + 1
  | .map entries => uptoBulkEntries entries + 1
  | .held _ => 1
def uptoBulkAll {H : Type} : List (DataW H) → Nat
  | [] => 0
  | d :: r => uptoBulk d + uptoBulkAll r
def uptoBulkEntries {H : Type} : List (Lit × DataW H) → Nat
  | [] => 0
  | x :: r => uptoBulkEntry x + uptoBulkEntries r
def uptoBulkEntry {H : Type} : Lit × DataW H → Nat
  | (.string bytes, d) => bytes.length + uptoBulk d + 1
  | (_, d) => uptoBulk d + 1
 end
def uptoSmall : (H : Type) → List (DataW H) → Bool := fun _ ds => decide (uptoBulkAll ds ≤ 1048576)
def OpenSpec.upto (s : _root_.Go.ChangeSpec) : _root_.Go.OpenSpec := { _root_.Go.OpenSpec.ofChange s with cond := some uptoSmall }

/-- 'switchboardlaw16.QueueHeavy', WHERE WHAT IT READS IS OF BULK AT MOST 1048576: true; the input reads as it did. -/
def queueHeavyUptoRow : OpenClaim := { program := "ytnplinohoflabaa", sum := "77670f7ed5174176e175f4c30c37d068c9d2c43c5c4375f84a47507c3923fb9b", func := "switchboard/switchboardlaw16.QueueHeavy", spec := "queueHeavy", unfollowed := true, recurses := true, apart := false, narrowed := true }
def QueueHeavyUptoSaid : Prop := queueHeavyUptoRow.holds Try.pinned (OpenSpec.upto queueHeavySpec)

/-- 'switchboardlaw16.QueueRoom', WHERE WHAT IT READS IS OF BULK AT MOST 1048576: true; the input reads as it did. -/
def queueRoomUptoRow : OpenClaim := { program := "ytnplinohoflabaa", sum := "77670f7ed5174176e175f4c30c37d068c9d2c43c5c4375f84a47507c3923fb9b", func := "switchboard/switchboardlaw16.QueueRoom", spec := "queueRoom", unfollowed := true, recurses := true, apart := false, narrowed := true }
def QueueRoomUptoSaid : Prop := queueRoomUptoRow.holds Try.pinned (OpenSpec.upto queueRoomSpec)

/-- 'switchboardlaw16.QueueOrder', WHERE WHAT IT READS IS OF BULK AT MOST 1048576: true; the input reads as it did. -/
def queueOrderUptoRow : OpenClaim := { program := "ytnplinohoflabaa", sum := "77670f7ed5174176e175f4c30c37d068c9d2c43c5c4375f84a47507c3923fb9b", func := "switchboard/switchboardlaw16.QueueOrder", spec := "queueOrder", unfollowed := true, recurses := true, apart := false, narrowed := true }
def QueueOrderUptoSaid : Prop := queueOrderUptoRow.holds Try.pinned (OpenSpec.upto queueOrderSpec)

/-- 'switchboardlaw16.QueueExpires', WHERE WHAT IT READS IS OF BULK AT MOST 1048576: true; the input reads as it did. -/
def queueExpiresUptoRow : OpenClaim := { program := "ytnplinohoflabaa", sum := "77670f7ed5174176e175f4c30c37d068c9d2c43c5c4375f84a47507c3923fb9b", func := "switchboard/switchboardlaw16.QueueExpires", spec := "queueExpires", unfollowed := true, recurses := true, apart := false, narrowed := true }
def QueueExpiresUptoSaid : Prop := queueExpiresUptoRow.holds Try.pinned (OpenSpec.upto queueExpiresSpec)

/-- 'switchboardlaw16.QueuePlays', WHERE WHAT IT READS IS OF BULK AT MOST 1048576: true; the input reads as it did. -/
def queuePlaysUptoRow : OpenClaim := { program := "ytnplinohoflabaa", sum := "77670f7ed5174176e175f4c30c37d068c9d2c43c5c4375f84a47507c3923fb9b", func := "switchboard/switchboardlaw16.QueuePlays", spec := "queuePlays", unfollowed := true, recurses := true, apart := false, narrowed := true }
def QueuePlaysUptoSaid : Prop := queuePlaysUptoRow.holds Try.pinned (OpenSpec.upto queuePlaysSpec)

/-- 'switchboardlaw15.WindowEnds', WHERE WHAT IT READS IS OF BULK AT MOST 1048576: true; the input reads as it did. -/
def windowEndsUptoRow : OpenClaim := { program := "ytnplinohoflabaa", sum := "77670f7ed5174176e175f4c30c37d068c9d2c43c5c4375f84a47507c3923fb9b", func := "switchboard/switchboardlaw15.WindowEnds", spec := "windowEnds", unfollowed := true, recurses := true, apart := false, narrowed := true }
def WindowEndsUptoSaid : Prop := windowEndsUptoRow.holds Try.pinned (OpenSpec.upto windowEndsSpec)

/-- 'switchboardlaw15.WindowResumes', WHERE WHAT IT READS IS OF BULK AT MOST 1048576: true; the input reads as it did. -/
def windowResumesUptoRow : OpenClaim := { program := "ytnplinohoflabaa", sum := "77670f7ed5174176e175f4c30c37d068c9d2c43c5c4375f84a47507c3923fb9b", func := "switchboard/switchboardlaw15.WindowResumes", spec := "windowResumes", unfollowed := true, recurses := true, apart := false, narrowed := true }
def WindowResumesUptoSaid : Prop := windowResumesUptoRow.holds Try.pinned (OpenSpec.upto windowResumesSpec)

/-- 'switchboardlaw15.WindowPlays', WHERE WHAT IT READS IS OF BULK AT MOST 1048576: true; the input reads as it did. -/
def windowPlaysUptoRow : OpenClaim := { program := "ytnplinohoflabaa", sum := "77670f7ed5174176e175f4c30c37d068c9d2c43c5c4375f84a47507c3923fb9b", func := "switchboard/switchboardlaw15.WindowPlays", spec := "windowPlays", unfollowed := true, recurses := true, apart := false, narrowed := true }
def WindowPlaysUptoSaid : Prop := windowPlaysUptoRow.holds Try.pinned (OpenSpec.upto windowPlaysSpec)

/-- 'switchboardlaw15.WindowOnce', WHERE WHAT IT READS IS OF BULK AT MOST 1048576: true; the input reads as it did. -/
def windowOnceUptoRow : OpenClaim := { program := "ytnplinohoflabaa", sum := "77670f7ed5174176e175f4c30c37d068c9d2c43c5c4375f84a47507c3923fb9b", func := "switchboard/switchboardlaw15.WindowOnce", spec := "windowOnce", unfollowed := true, recurses := true, apart := false, narrowed := true }
def WindowOnceUptoSaid : Prop := windowOnceUptoRow.holds Try.pinned (OpenSpec.upto windowOnceSpec)

/-- 'switchboardlaw15.WindowWrong', WHERE WHAT IT READS IS OF BULK AT MOST 1048576: true; the input reads as it did. -/
def windowWrongUptoRow : OpenClaim := { program := "ytnplinohoflabaa", sum := "77670f7ed5174176e175f4c30c37d068c9d2c43c5c4375f84a47507c3923fb9b", func := "switchboard/switchboardlaw15.WindowWrong", spec := "windowWrong", unfollowed := true, recurses := true, apart := false, narrowed := true }
def WindowWrongUptoSaid : Prop := windowWrongUptoRow.holds Try.pinned (OpenSpec.upto windowWrongSpec)

end Rows
end Go.Proofs.Ytnplinohoflabaa
