/-
  No cell of these rows narrows 'for every input' (looked for: loops, veiled, ifaces, maps, wideKeys, modest, calm, conditions, laid).
  DERIVED. THE GIVEN ROWS OF THIS SEAT. 10 by the template 'for every input the law returns true; each argument reads behind the call as it read before'; 0 by the template 'total and deterministic' (their statements: YtdnekkbchlibhaaTotals.lean).
  GIVEN WITH THE SEED: the statements are not yours to turn. If you find one false, say at which input.
  Laid BY PROGRAM, IN A SANDBOX (cutbox-rows.mjs): the forced cells as the released guide's own fill.sh prints them over the translation 9c37be5d79b2efb9… (all of the seat's roots in one cut). By AI agents, Wed Nov 11 2026. No macro, syntax, notation, axiom, sorry.
-/
import Derived.Test.YtdnekkbchlibhaaChecked
import GoSem.Claim
import GoSem.ClaimJoined
import GoSem.ClaimMapViews
import Derived.JoinedTies
import Derived.KernelRfl
namespace Go.Proofs.Ytdnekkbchlibhaa
/- THE CELL 'sum', in the pinned program and in every row, IS THE sha256 OF THE DUMP (.gsa) THAT YtdnekkbchlibhaaProg.lean LOADS. Nothing in Lean hashes anything: it is a label: what it is worth is what the hold of that sum in a sandbox is worth. -/
noncomputable def Try.pinned : Pinned := { name := "ytdnekkbchlibhaa", sum := "9c37be5d79b2efb9abe2bc28c556bccf6279d0b8e8104cd1d547fb68902eb700", checked := Try.checked }
namespace Rows
def none {H : Type} : Left H := { results := [], args := [] }

/-- 'laws.FnPackets': WHATEVER THE INPUT: true; the input reads as it did. -/
def fnPacketsSpec : ChangeSpec := { name := "fnPackets", fn := fun _ => fun
  | [d] => { results := [.lit (.bool true)], args := [d] }
  | _ => none }
def fnPacketsRow : OpenClaim := { program := "ytdnekkbchlibhaa", sum := "9c37be5d79b2efb9abe2bc28c556bccf6279d0b8e8104cd1d547fb68902eb700", func := "loop.example/g00986/laws.FnPackets", spec := "fnPackets", unfollowed := true, recurses := true, apart := false }
def FnPacketsSaid : Prop := fnPacketsRow.holds Try.pinned (OpenSpec.ofChange fnPacketsSpec)

/-- ITS FALSE NEIGHBOUR: 'it returns false'. Refute it at one input. -/
def fnPacketsWrong : ChangeSpec := { name := "fnPackets", fn := fun _ => fun
  | [d] => { results := [.lit (.bool false)], args := [d] }
  | _ => none }
def FnPacketsWrongFalsely : Prop := fnPacketsRow.holds Try.pinned (OpenSpec.ofChange fnPacketsWrong)

/-- 'laws.FnWire': WHATEVER THE INPUT: true; the input reads as it did. -/
def fnWireSpec : ChangeSpec := { name := "fnWire", fn := fun _ => fun
  | [d] => { results := [.lit (.bool true)], args := [d] }
  | _ => none }
def fnWireRow : OpenClaim := { program := "ytdnekkbchlibhaa", sum := "9c37be5d79b2efb9abe2bc28c556bccf6279d0b8e8104cd1d547fb68902eb700", func := "loop.example/g00986/laws.FnWire", spec := "fnWire", unfollowed := true, recurses := true, apart := false }
def FnWireSaid : Prop := fnWireRow.holds Try.pinned (OpenSpec.ofChange fnWireSpec)

/-- ITS FALSE NEIGHBOUR: 'it returns false'. Refute it at one input. -/
def fnWireWrong : ChangeSpec := { name := "fnWire", fn := fun _ => fun
  | [d] => { results := [.lit (.bool false)], args := [d] }
  | _ => none }
def FnWireWrongFalsely : Prop := fnWireRow.holds Try.pinned (OpenSpec.ofChange fnWireWrong)

/-- 'laws.FnChecks': WHATEVER THE INPUT: true; the input reads as it did. -/
def fnChecksSpec : ChangeSpec := { name := "fnChecks", fn := fun _ => fun
  | [d] => { results := [.lit (.bool true)], args := [d] }
  | _ => none }
def fnChecksRow : OpenClaim := { program := "ytdnekkbchlibhaa", sum := "9c37be5d79b2efb9abe2bc28c556bccf6279d0b8e8104cd1d547fb68902eb700", func := "loop.example/g00986/laws.FnChecks", spec := "fnChecks", unfollowed := true, recurses := true, apart := false }
def FnChecksSaid : Prop := fnChecksRow.holds Try.pinned (OpenSpec.ofChange fnChecksSpec)

/-- ITS FALSE NEIGHBOUR: 'it returns false'. Refute it at one input. -/
def fnChecksWrong : ChangeSpec := { name := "fnChecks", fn := fun _ => fun
  | [d] => { results := [.lit (.bool false)], args := [d] }
  | _ => none }
def FnChecksWrongFalsely : Prop := fnChecksRow.holds Try.pinned (OpenSpec.ofChange fnChecksWrong)

/-- 'laws.FnDistances': WHATEVER THE INPUT: true; the input reads as it did. -/
def fnDistancesSpec : ChangeSpec := { name := "fnDistances", fn := fun _ => fun
  | [d] => { results := [.lit (.bool true)], args := [d] }
  | _ => none }
def fnDistancesRow : OpenClaim := { program := "ytdnekkbchlibhaa", sum := "9c37be5d79b2efb9abe2bc28c556bccf6279d0b8e8104cd1d547fb68902eb700", func := "loop.example/g00986/laws.FnDistances", spec := "fnDistances", unfollowed := true, recurses := true, apart := false }
def FnDistancesSaid : Prop := fnDistancesRow.holds Try.pinned (OpenSpec.ofChange fnDistancesSpec)

/-- ITS FALSE NEIGHBOUR: 'it returns false'. Refute it at one input. -/
def fnDistancesWrong : ChangeSpec := { name := "fnDistances", fn := fun _ => fun
  | [d] => { results := [.lit (.bool false)], args := [d] }
  | _ => none }
def FnDistancesWrongFalsely : Prop := fnDistancesRow.holds Try.pinned (OpenSpec.ofChange fnDistancesWrong)

/-- 'laws.FnExactSenderOk': WHATEVER THE INPUT: true; the input reads as it did. -/
def fnExactSenderOkSpec : ChangeSpec := { name := "fnExactSenderOk", fn := fun _ => fun
  | [d] => { results := [.lit (.bool true)], args := [d] }
  | _ => none }
def fnExactSenderOkRow : OpenClaim := { program := "ytdnekkbchlibhaa", sum := "9c37be5d79b2efb9abe2bc28c556bccf6279d0b8e8104cd1d547fb68902eb700", func := "loop.example/g00986/laws.FnExactSenderOk", spec := "fnExactSenderOk", unfollowed := true, recurses := true, apart := false }
def FnExactSenderOkSaid : Prop := fnExactSenderOkRow.holds Try.pinned (OpenSpec.ofChange fnExactSenderOkSpec)

/-- ITS FALSE NEIGHBOUR: 'it returns false'. Refute it at one input. -/
def fnExactSenderOkWrong : ChangeSpec := { name := "fnExactSenderOk", fn := fun _ => fun
  | [d] => { results := [.lit (.bool false)], args := [d] }
  | _ => none }
def FnExactSenderOkWrongFalsely : Prop := fnExactSenderOkRow.holds Try.pinned (OpenSpec.ofChange fnExactSenderOkWrong)

/-- 'laws.FnExactReplay': WHATEVER THE INPUT: true; the input reads as it did. -/
def fnExactReplaySpec : ChangeSpec := { name := "fnExactReplay", fn := fun _ => fun
  | [d] => { results := [.lit (.bool true)], args := [d] }
  | _ => none }
def fnExactReplayRow : OpenClaim := { program := "ytdnekkbchlibhaa", sum := "9c37be5d79b2efb9abe2bc28c556bccf6279d0b8e8104cd1d547fb68902eb700", func := "loop.example/g00986/laws.FnExactReplay", spec := "fnExactReplay", unfollowed := true, recurses := true, apart := false }
def FnExactReplaySaid : Prop := fnExactReplayRow.holds Try.pinned (OpenSpec.ofChange fnExactReplaySpec)

/-- ITS FALSE NEIGHBOUR: 'it returns false'. Refute it at one input. -/
def fnExactReplayWrong : ChangeSpec := { name := "fnExactReplay", fn := fun _ => fun
  | [d] => { results := [.lit (.bool false)], args := [d] }
  | _ => none }
def FnExactReplayWrongFalsely : Prop := fnExactReplayRow.holds Try.pinned (OpenSpec.ofChange fnExactReplayWrong)

/-- 'laws.FnExactTakeAck': WHATEVER THE INPUT: true; the input reads as it did. -/
def fnExactTakeAckSpec : ChangeSpec := { name := "fnExactTakeAck", fn := fun _ => fun
  | [d1, d2] => { results := [.lit (.bool true)], args := [d1, d2] }
  | _ => none }
def fnExactTakeAckRow : OpenClaim := { program := "ytdnekkbchlibhaa", sum := "9c37be5d79b2efb9abe2bc28c556bccf6279d0b8e8104cd1d547fb68902eb700", func := "loop.example/g00986/laws.FnExactTakeAck", spec := "fnExactTakeAck", unfollowed := true, recurses := true, apart := false }
def FnExactTakeAckSaid : Prop := fnExactTakeAckRow.holds Try.pinned (OpenSpec.ofChange fnExactTakeAckSpec)

/-- ITS FALSE NEIGHBOUR: 'it returns false'. Refute it at one input. -/
def fnExactTakeAckWrong : ChangeSpec := { name := "fnExactTakeAck", fn := fun _ => fun
  | [d1, d2] => { results := [.lit (.bool false)], args := [d1, d2] }
  | _ => none }
def FnExactTakeAckWrongFalsely : Prop := fnExactTakeAckRow.holds Try.pinned (OpenSpec.ofChange fnExactTakeAckWrong)

/-- 'laws.FnExactTakeReady': WHATEVER THE INPUT: true; the input reads as it did. -/
def fnExactTakeReadySpec : ChangeSpec := { name := "fnExactTakeReady", fn := fun _ => fun
  | [d] => { results := [.lit (.bool true)], args := [d] }
  | _ => none }
def fnExactTakeReadyRow : OpenClaim := { program := "ytdnekkbchlibhaa", sum := "9c37be5d79b2efb9abe2bc28c556bccf6279d0b8e8104cd1d547fb68902eb700", func := "loop.example/g00986/laws.FnExactTakeReady", spec := "fnExactTakeReady", unfollowed := true, recurses := true, apart := false }
def FnExactTakeReadySaid : Prop := fnExactTakeReadyRow.holds Try.pinned (OpenSpec.ofChange fnExactTakeReadySpec)

/-- ITS FALSE NEIGHBOUR: 'it returns false'. Refute it at one input. -/
def fnExactTakeReadyWrong : ChangeSpec := { name := "fnExactTakeReady", fn := fun _ => fun
  | [d] => { results := [.lit (.bool false)], args := [d] }
  | _ => none }
def FnExactTakeReadyWrongFalsely : Prop := fnExactTakeReadyRow.holds Try.pinned (OpenSpec.ofChange fnExactTakeReadyWrong)

/-- 'laws.FnExactQueueFrame': WHATEVER THE INPUT: true; the input reads as it did. -/
def fnExactQueueFrameSpec : ChangeSpec := { name := "fnExactQueueFrame", fn := fun _ => fun
  | [d1, d2] => { results := [.lit (.bool true)], args := [d1, d2] }
  | _ => none }
def fnExactQueueFrameRow : OpenClaim := { program := "ytdnekkbchlibhaa", sum := "9c37be5d79b2efb9abe2bc28c556bccf6279d0b8e8104cd1d547fb68902eb700", func := "loop.example/g00986/laws.FnExactQueueFrame", spec := "fnExactQueueFrame", unfollowed := true, recurses := true, apart := false }
def FnExactQueueFrameSaid : Prop := fnExactQueueFrameRow.holds Try.pinned (OpenSpec.ofChange fnExactQueueFrameSpec)

/-- ITS FALSE NEIGHBOUR: 'it returns false'. Refute it at one input. -/
def fnExactQueueFrameWrong : ChangeSpec := { name := "fnExactQueueFrame", fn := fun _ => fun
  | [d1, d2] => { results := [.lit (.bool false)], args := [d1, d2] }
  | _ => none }
def FnExactQueueFrameWrongFalsely : Prop := fnExactQueueFrameRow.holds Try.pinned (OpenSpec.ofChange fnExactQueueFrameWrong)

/-- 'laws.FnSenders': WHATEVER THE INPUT: true; the input reads as it did. -/
def fnSendersSpec : ChangeSpec := { name := "fnSenders", fn := fun _ => fun
  | [d] => { results := [.lit (.bool true)], args := [d] }
  | _ => none }
def fnSendersRow : OpenClaim := { program := "ytdnekkbchlibhaa", sum := "9c37be5d79b2efb9abe2bc28c556bccf6279d0b8e8104cd1d547fb68902eb700", func := "loop.example/g00986/laws.FnSenders", spec := "fnSenders", unfollowed := true, recurses := true, apart := false }
def FnSendersSaid : Prop := fnSendersRow.holds Try.pinned (OpenSpec.ofChange fnSendersSpec)

/-- ITS FALSE NEIGHBOUR: 'it returns false'. Refute it at one input. -/
def fnSendersWrong : ChangeSpec := { name := "fnSenders", fn := fun _ => fun
  | [d] => { results := [.lit (.bool false)], args := [d] }
  | _ => none }
def FnSendersWrongFalsely : Prop := fnSendersRow.holds Try.pinned (OpenSpec.ofChange fnSendersWrong)

/- THE SECOND FORM. 'bulk': how many values and letters a reading holds, each counted each time it is reached (what is shared counts as often as it is met; a slice's spare places count too). A statement '..UptoSaid' is the law's where the arguments, and the package variables that the reading takes, are together of bulk at most 1048576: NARROWER than '..Said'. Prove '..Said' where nothing that the law and all that it calls make is longer than what came in: it says more and counts as full. Else prove '..UptoSaid'. A law counts once. -/
mutual
def uptoBulk {H : Type} : DataW H → Nat
  | .lit (.string bytes) => bytes.length + 1
  | .lit _ => 1
  | .nil => 1
  | .ptr d => uptoBulk d + 1
  | .slice elems spare => uptoBulkAll elems + uptoBulkAll spare + 1
  | .agg parts => uptoBulkAll parts + 1
  | .iface _ d => uptoBulk d + 1
  | .map entries => uptoBulkEntries entries + 1
  | .held _ => 1
def uptoBulkAll {H : Type} : List (DataW H) → Nat
  | [] => 0
  | d :: r => uptoBulk d + uptoBulkAll r
def uptoBulkEntries {H : Type} : List (Lit × DataW H) → Nat
  | [] => 0
  | x :: r => uptoBulkEntry x + uptoBulkEntries r
def uptoBulkEntry {H : Type} : Lit × DataW H → Nat
  | (.string bytes, d) => bytes.length + uptoBulk d + 1
  | (_, d) => uptoBulk d + 1
 end
def uptoSmall : (H : Type) → List (DataW H) → Bool := fun _ ds => decide (uptoBulkAll ds ≤ 1048576)
def OpenSpec.upto (s : _root_.Go.ChangeSpec) : _root_.Go.OpenSpec := { _root_.Go.OpenSpec.ofChange s with cond := some uptoSmall }

/-- 'laws.FnPackets', WHERE WHAT IT READS IS OF BULK AT MOST 1048576: true; the input reads as it did. -/
def fnPacketsUptoRow : OpenClaim := { program := "ytdnekkbchlibhaa", sum := "9c37be5d79b2efb9abe2bc28c556bccf6279d0b8e8104cd1d547fb68902eb700", func := "loop.example/g00986/laws.FnPackets", spec := "fnPackets", unfollowed := true, recurses := true, apart := false, narrowed := true }
def FnPacketsUptoSaid : Prop := fnPacketsUptoRow.holds Try.pinned (OpenSpec.upto fnPacketsSpec)

/-- 'laws.FnWire', WHERE WHAT IT READS IS OF BULK AT MOST 1048576: true; the input reads as it did. -/
def fnWireUptoRow : OpenClaim := { program := "ytdnekkbchlibhaa", sum := "9c37be5d79b2efb9abe2bc28c556bccf6279d0b8e8104cd1d547fb68902eb700", func := "loop.example/g00986/laws.FnWire", spec := "fnWire", unfollowed := true, recurses := true, apart := false, narrowed := true }
def FnWireUptoSaid : Prop := fnWireUptoRow.holds Try.pinned (OpenSpec.upto fnWireSpec)

/-- 'laws.FnChecks', WHERE WHAT IT READS IS OF BULK AT MOST 1048576: true; the input reads as it did. -/
def fnChecksUptoRow : OpenClaim := { program := "ytdnekkbchlibhaa", sum := "9c37be5d79b2efb9abe2bc28c556bccf6279d0b8e8104cd1d547fb68902eb700", func := "loop.example/g00986/laws.FnChecks", spec := "fnChecks", unfollowed := true, recurses := true, apart := false, narrowed := true }
def FnChecksUptoSaid : Prop := fnChecksUptoRow.holds Try.pinned (OpenSpec.upto fnChecksSpec)

/-- 'laws.FnDistances', WHERE WHAT IT READS IS OF BULK AT MOST 1048576: true; the input reads as it did. -/
def fnDistancesUptoRow : OpenClaim := { program := "ytdnekkbchlibhaa", sum := "9c37be5d79b2efb9abe2bc28c556bccf6279d0b8e8104cd1d547fb68902eb700", func := "loop.example/g00986/laws.FnDistances", spec := "fnDistances", unfollowed := true, recurses := true, apart := false, narrowed := true }
def FnDistancesUptoSaid : Prop := fnDistancesUptoRow.holds Try.pinned (OpenSpec.upto fnDistancesSpec)

/-- 'laws.FnExactSenderOk', WHERE WHAT IT READS IS OF BULK AT MOST 1048576: true; the input reads as it did. -/
def fnExactSenderOkUptoRow : OpenClaim := { program := "ytdnekkbchlibhaa", sum := "9c37be5d79b2efb9abe2bc28c556bccf6279d0b8e8104cd1d547fb68902eb700", func := "loop.example/g00986/laws.FnExactSenderOk", spec := "fnExactSenderOk", unfollowed := true, recurses := true, apart := false, narrowed := true }
def FnExactSenderOkUptoSaid : Prop := fnExactSenderOkUptoRow.holds Try.pinned (OpenSpec.upto fnExactSenderOkSpec)

/-- 'laws.FnExactReplay', WHERE WHAT IT READS IS OF BULK AT MOST 1048576: true; the input reads as it did. -/
def fnExactReplayUptoRow : OpenClaim := { program := "ytdnekkbchlibhaa", sum := "9c37be5d79b2efb9abe2bc28c556bccf6279d0b8e8104cd1d547fb68902eb700", func := "loop.example/g00986/laws.FnExactReplay", spec := "fnExactReplay", unfollowed := true, recurses := true, apart := false, narrowed := true }
def FnExactReplayUptoSaid : Prop := fnExactReplayUptoRow.holds Try.pinned (OpenSpec.upto fnExactReplaySpec)

/-- 'laws.FnExactTakeAck', WHERE WHAT IT READS IS OF BULK AT MOST 1048576: true; the input reads as it did. -/
def fnExactTakeAckUptoRow : OpenClaim := { program := "ytdnekkbchlibhaa", sum := "9c37be5d79b2efb9abe2bc28c556bccf6279d0b8e8104cd1d547fb68902eb700", func := "loop.example/g00986/laws.FnExactTakeAck", spec := "fnExactTakeAck", unfollowed := true, recurses := true, apart := false, narrowed := true }
def FnExactTakeAckUptoSaid : Prop := fnExactTakeAckUptoRow.holds Try.pinned (OpenSpec.upto fnExactTakeAckSpec)

/-- 'laws.FnExactTakeReady', WHERE WHAT IT READS IS OF BULK AT MOST 1048576: true; the input reads as it did. -/
def fnExactTakeReadyUptoRow : OpenClaim := { program := "ytdnekkbchlibhaa", sum := "9c37be5d79b2efb9abe2bc28c556bccf6279d0b8e8104cd1d547fb68902eb700", func := "loop.example/g00986/laws.FnExactTakeReady", spec := "fnExactTakeReady", unfollowed := true, recurses := true, apart := false, narrowed := true }
def FnExactTakeReadyUptoSaid : Prop := fnExactTakeReadyUptoRow.holds Try.pinned (OpenSpec.upto fnExactTakeReadySpec)

/-- 'laws.FnExactQueueFrame', WHERE WHAT IT READS IS OF BULK AT MOST 1048576: true; the input reads as it did. -/
def fnExactQueueFrameUptoRow : OpenClaim := { program := "ytdnekkbchlibhaa", sum := "9c37be5d79b2efb9abe2bc28c556bccf6279d0b8e8104cd1d547fb68902eb700", func := "loop.example/g00986/laws.FnExactQueueFrame", spec := "fnExactQueueFrame", unfollowed := true, recurses := true, apart := false, narrowed := true }
def FnExactQueueFrameUptoSaid : Prop := fnExactQueueFrameUptoRow.holds Try.pinned (OpenSpec.upto fnExactQueueFrameSpec)

/-- 'laws.FnSenders', WHERE WHAT IT READS IS OF BULK AT MOST 1048576: true; the input reads as it did. -/
def fnSendersUptoRow : OpenClaim := { program := "ytdnekkbchlibhaa", sum := "9c37be5d79b2efb9abe2bc28c556bccf6279d0b8e8104cd1d547fb68902eb700", func := "loop.example/g00986/laws.FnSenders", spec := "fnSenders", unfollowed := true, recurses := true, apart := false, narrowed := true }
def FnSendersUptoSaid : Prop := fnSendersUptoRow.holds Try.pinned (OpenSpec.upto fnSendersSpec)

end Rows
end Go.Proofs.Ytdnekkbchlibhaa
