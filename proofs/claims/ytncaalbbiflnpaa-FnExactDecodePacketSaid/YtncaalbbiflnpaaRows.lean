/-
  No cell of these rows narrows 'for every input' (looked for: loops, veiled, ifaces, maps, wideKeys, modest, calm, conditions, laid).
  DERIVED. THE GIVEN ROWS OF THIS SEAT. 12 by the template 'for every input the law returns true; each argument reads behind the call as it read before'; 0 by the template 'total and deterministic' (their statements: YtncaalbbiflnpaaTotals.lean).
  GIVEN WITH THE SEED: the statements are not yours to turn. If you find one false, say at which input.
  Laid BY PROGRAM, IN A SANDBOX (cutbox-rows.mjs): the forced cells as the released guide's own fill.sh prints them over the translation d564a7da3e54b257… (all of the seat's roots in one cut). By AI agents, Wed Nov 11 2026. No macro, syntax, notation, axiom, sorry.
-/
import Derived.Test.YtncaalbbiflnpaaChecked
import GoSem.Claim
import GoSem.ClaimJoined
import GoSem.ClaimMapViews
import Derived.JoinedTies
import Derived.KernelRfl
namespace Go.Proofs.Ytncaalbbiflnpaa
/- THE CELL 'sum', in the pinned program and in every row, IS THE sha256 OF THE DUMP (.gsa) THAT YtncaalbbiflnpaaProg.lean LOADS. Nothing in Lean hashes anything: it is a label: what it is worth is what the hold of that sum in a sandbox is worth. -/
noncomputable def Try.pinned : Pinned := { name := "ytncaalbbiflnpaa", sum := "d564a7da3e54b25726005dc6e5659298a3bf43524fa3aa51d0845325fa4a3e06", checked := Try.checked }
namespace Rows
def none {H : Type} : Left H := { results := [], args := [] }

/-- 'laws.FnExactAreBytes': WHATEVER THE INPUT: true; the input reads as it did. -/
def fnExactAreBytesSpec : ChangeSpec := { name := "fnExactAreBytes", fn := fun _ => fun
  | [d] => { results := [.lit (.bool true)], args := [d] }
  | _ => none }
def fnExactAreBytesRow : OpenClaim := { program := "ytncaalbbiflnpaa", sum := "d564a7da3e54b25726005dc6e5659298a3bf43524fa3aa51d0845325fa4a3e06", func := "loop.example/g00986/laws.FnExactAreBytes", spec := "fnExactAreBytes", unfollowed := true, recurses := true, apart := false }
def FnExactAreBytesSaid : Prop := fnExactAreBytesRow.holds Try.pinned (OpenSpec.ofChange fnExactAreBytesSpec)

/-- ITS FALSE NEIGHBOUR: 'it returns false'. Refute it at one input. -/
def fnExactAreBytesWrong : ChangeSpec := { name := "fnExactAreBytes", fn := fun _ => fun
  | [d] => { results := [.lit (.bool false)], args := [d] }
  | _ => none }
def FnExactAreBytesWrongFalsely : Prop := fnExactAreBytesRow.holds Try.pinned (OpenSpec.ofChange fnExactAreBytesWrong)

/-- 'laws.FnExactCheckOf': WHATEVER THE INPUT: true; the input reads as it did. -/
def fnExactCheckOfSpec : ChangeSpec := { name := "fnExactCheckOf", fn := fun _ => fun
  | [d] => { results := [.lit (.bool true)], args := [d] }
  | _ => none }
def fnExactCheckOfRow : OpenClaim := { program := "ytncaalbbiflnpaa", sum := "d564a7da3e54b25726005dc6e5659298a3bf43524fa3aa51d0845325fa4a3e06", func := "loop.example/g00986/laws.FnExactCheckOf", spec := "fnExactCheckOf", unfollowed := true, recurses := true, apart := false }
def FnExactCheckOfSaid : Prop := fnExactCheckOfRow.holds Try.pinned (OpenSpec.ofChange fnExactCheckOfSpec)

/-- ITS FALSE NEIGHBOUR: 'it returns false'. Refute it at one input. -/
def fnExactCheckOfWrong : ChangeSpec := { name := "fnExactCheckOf", fn := fun _ => fun
  | [d] => { results := [.lit (.bool false)], args := [d] }
  | _ => none }
def FnExactCheckOfWrongFalsely : Prop := fnExactCheckOfRow.holds Try.pinned (OpenSpec.ofChange fnExactCheckOfWrong)

/-- 'laws.FnExactFlipBit': WHATEVER THE INPUT: true; the input reads as it did. -/
def fnExactFlipBitSpec : ChangeSpec := { name := "fnExactFlipBit", fn := fun _ => fun
  | [d1, d2] => { results := [.lit (.bool true)], args := [d1, d2] }
  | _ => none }
def fnExactFlipBitRow : OpenClaim := { program := "ytncaalbbiflnpaa", sum := "d564a7da3e54b25726005dc6e5659298a3bf43524fa3aa51d0845325fa4a3e06", func := "loop.example/g00986/laws.FnExactFlipBit", spec := "fnExactFlipBit", unfollowed := true, recurses := true, apart := false }
def FnExactFlipBitSaid : Prop := fnExactFlipBitRow.holds Try.pinned (OpenSpec.ofChange fnExactFlipBitSpec)

/-- ITS FALSE NEIGHBOUR: 'it returns false'. Refute it at one input. -/
def fnExactFlipBitWrong : ChangeSpec := { name := "fnExactFlipBit", fn := fun _ => fun
  | [d1, d2] => { results := [.lit (.bool false)], args := [d1, d2] }
  | _ => none }
def FnExactFlipBitWrongFalsely : Prop := fnExactFlipBitRow.holds Try.pinned (OpenSpec.ofChange fnExactFlipBitWrong)

/-- 'laws.FnExactSamePacket': WHATEVER THE INPUT: true; the input reads as it did. -/
def fnExactSamePacketSpec : ChangeSpec := { name := "fnExactSamePacket", fn := fun _ => fun
  | [d1, d2] => { results := [.lit (.bool true)], args := [d1, d2] }
  | _ => none }
def fnExactSamePacketRow : OpenClaim := { program := "ytncaalbbiflnpaa", sum := "d564a7da3e54b25726005dc6e5659298a3bf43524fa3aa51d0845325fa4a3e06", func := "loop.example/g00986/laws.FnExactSamePacket", spec := "fnExactSamePacket", apart := false }
def FnExactSamePacketSaid : Prop := fnExactSamePacketRow.holds Try.pinned (OpenSpec.ofChange fnExactSamePacketSpec)

/-- ITS FALSE NEIGHBOUR: 'it returns false'. Refute it at one input. -/
def fnExactSamePacketWrong : ChangeSpec := { name := "fnExactSamePacket", fn := fun _ => fun
  | [d1, d2] => { results := [.lit (.bool false)], args := [d1, d2] }
  | _ => none }
def FnExactSamePacketWrongFalsely : Prop := fnExactSamePacketRow.holds Try.pinned (OpenSpec.ofChange fnExactSamePacketWrong)

/-- 'laws.FnExactDistanceOf': WHATEVER THE INPUT: true; the input reads as it did. -/
def fnExactDistanceOfSpec : ChangeSpec := { name := "fnExactDistanceOf", fn := fun _ => fun
  | [d1, d2] => { results := [.lit (.bool true)], args := [d1, d2] }
  | _ => none }
def fnExactDistanceOfRow : OpenClaim := { program := "ytncaalbbiflnpaa", sum := "d564a7da3e54b25726005dc6e5659298a3bf43524fa3aa51d0845325fa4a3e06", func := "loop.example/g00986/laws.FnExactDistanceOf", spec := "fnExactDistanceOf", unfollowed := true, recurses := true, apart := false }
def FnExactDistanceOfSaid : Prop := fnExactDistanceOfRow.holds Try.pinned (OpenSpec.ofChange fnExactDistanceOfSpec)

/-- ITS FALSE NEIGHBOUR: 'it returns false'. Refute it at one input. -/
def fnExactDistanceOfWrong : ChangeSpec := { name := "fnExactDistanceOf", fn := fun _ => fun
  | [d1, d2] => { results := [.lit (.bool false)], args := [d1, d2] }
  | _ => none }
def FnExactDistanceOfWrongFalsely : Prop := fnExactDistanceOfRow.holds Try.pinned (OpenSpec.ofChange fnExactDistanceOfWrong)

/-- 'laws.FnExactAddCheck': WHATEVER THE INPUT: true; the input reads as it did. -/
def fnExactAddCheckSpec : ChangeSpec := { name := "fnExactAddCheck", fn := fun _ => fun
  | [d] => { results := [.lit (.bool true)], args := [d] }
  | _ => none }
def fnExactAddCheckRow : OpenClaim := { program := "ytncaalbbiflnpaa", sum := "d564a7da3e54b25726005dc6e5659298a3bf43524fa3aa51d0845325fa4a3e06", func := "loop.example/g00986/laws.FnExactAddCheck", spec := "fnExactAddCheck", unfollowed := true, recurses := true, apart := false }
def FnExactAddCheckSaid : Prop := fnExactAddCheckRow.holds Try.pinned (OpenSpec.ofChange fnExactAddCheckSpec)

/-- ITS FALSE NEIGHBOUR: 'it returns false'. Refute it at one input. -/
def fnExactAddCheckWrong : ChangeSpec := { name := "fnExactAddCheck", fn := fun _ => fun
  | [d] => { results := [.lit (.bool false)], args := [d] }
  | _ => none }
def FnExactAddCheckWrongFalsely : Prop := fnExactAddCheckRow.holds Try.pinned (OpenSpec.ofChange fnExactAddCheckWrong)

/-- 'laws.FnExactTakeCheck': WHATEVER THE INPUT: true; the input reads as it did. -/
def fnExactTakeCheckSpec : ChangeSpec := { name := "fnExactTakeCheck", fn := fun _ => fun
  | [d] => { results := [.lit (.bool true)], args := [d] }
  | _ => none }
def fnExactTakeCheckRow : OpenClaim := { program := "ytncaalbbiflnpaa", sum := "d564a7da3e54b25726005dc6e5659298a3bf43524fa3aa51d0845325fa4a3e06", func := "loop.example/g00986/laws.FnExactTakeCheck", spec := "fnExactTakeCheck", unfollowed := true, recurses := true, apart := false }
def FnExactTakeCheckSaid : Prop := fnExactTakeCheckRow.holds Try.pinned (OpenSpec.ofChange fnExactTakeCheckSpec)

/-- ITS FALSE NEIGHBOUR: 'it returns false'. Refute it at one input. -/
def fnExactTakeCheckWrong : ChangeSpec := { name := "fnExactTakeCheck", fn := fun _ => fun
  | [d] => { results := [.lit (.bool false)], args := [d] }
  | _ => none }
def FnExactTakeCheckWrongFalsely : Prop := fnExactTakeCheckRow.holds Try.pinned (OpenSpec.ofChange fnExactTakeCheckWrong)

/-- 'laws.FnExactIsPacket': WHATEVER THE INPUT: true; the input reads as it did. -/
def fnExactIsPacketSpec : ChangeSpec := { name := "fnExactIsPacket", fn := fun _ => fun
  | [d] => { results := [.lit (.bool true)], args := [d] }
  | _ => none }
def fnExactIsPacketRow : OpenClaim := { program := "ytncaalbbiflnpaa", sum := "d564a7da3e54b25726005dc6e5659298a3bf43524fa3aa51d0845325fa4a3e06", func := "loop.example/g00986/laws.FnExactIsPacket", spec := "fnExactIsPacket", unfollowed := true, recurses := true, apart := false }
def FnExactIsPacketSaid : Prop := fnExactIsPacketRow.holds Try.pinned (OpenSpec.ofChange fnExactIsPacketSpec)

/-- ITS FALSE NEIGHBOUR: 'it returns false'. Refute it at one input. -/
def fnExactIsPacketWrong : ChangeSpec := { name := "fnExactIsPacket", fn := fun _ => fun
  | [d] => { results := [.lit (.bool false)], args := [d] }
  | _ => none }
def FnExactIsPacketWrongFalsely : Prop := fnExactIsPacketRow.holds Try.pinned (OpenSpec.ofChange fnExactIsPacketWrong)

/-- 'laws.FnExactPacketUnits': WHATEVER THE INPUT: true; the input reads as it did. -/
def fnExactPacketUnitsSpec : ChangeSpec := { name := "fnExactPacketUnits", fn := fun _ => fun
  | [d] => { results := [.lit (.bool true)], args := [d] }
  | _ => none }
def fnExactPacketUnitsRow : OpenClaim := { program := "ytncaalbbiflnpaa", sum := "d564a7da3e54b25726005dc6e5659298a3bf43524fa3aa51d0845325fa4a3e06", func := "loop.example/g00986/laws.FnExactPacketUnits", spec := "fnExactPacketUnits", unfollowed := true, recurses := true, apart := false }
def FnExactPacketUnitsSaid : Prop := fnExactPacketUnitsRow.holds Try.pinned (OpenSpec.ofChange fnExactPacketUnitsSpec)

/-- ITS FALSE NEIGHBOUR: 'it returns false'. Refute it at one input. -/
def fnExactPacketUnitsWrong : ChangeSpec := { name := "fnExactPacketUnits", fn := fun _ => fun
  | [d] => { results := [.lit (.bool false)], args := [d] }
  | _ => none }
def FnExactPacketUnitsWrongFalsely : Prop := fnExactPacketUnitsRow.holds Try.pinned (OpenSpec.ofChange fnExactPacketUnitsWrong)

/-- 'laws.FnExactClassOf': WHATEVER THE INPUT: true; the input reads as it did. -/
def fnExactClassOfSpec : ChangeSpec := { name := "fnExactClassOf", fn := fun _ => fun
  | [d] => { results := [.lit (.bool true)], args := [d] }
  | _ => none }
def fnExactClassOfRow : OpenClaim := { program := "ytncaalbbiflnpaa", sum := "d564a7da3e54b25726005dc6e5659298a3bf43524fa3aa51d0845325fa4a3e06", func := "loop.example/g00986/laws.FnExactClassOf", spec := "fnExactClassOf", unfollowed := true, recurses := true, apart := false }
def FnExactClassOfSaid : Prop := fnExactClassOfRow.holds Try.pinned (OpenSpec.ofChange fnExactClassOfSpec)

/-- ITS FALSE NEIGHBOUR: 'it returns false'. Refute it at one input. -/
def fnExactClassOfWrong : ChangeSpec := { name := "fnExactClassOf", fn := fun _ => fun
  | [d] => { results := [.lit (.bool false)], args := [d] }
  | _ => none }
def FnExactClassOfWrongFalsely : Prop := fnExactClassOfRow.holds Try.pinned (OpenSpec.ofChange fnExactClassOfWrong)

/-- 'laws.FnExactEncodePacket': WHATEVER THE INPUT: true; the input reads as it did. -/
def fnExactEncodePacketSpec : ChangeSpec := { name := "fnExactEncodePacket", fn := fun _ => fun
  | [d] => { results := [.lit (.bool true)], args := [d] }
  | _ => none }
def fnExactEncodePacketRow : OpenClaim := { program := "ytncaalbbiflnpaa", sum := "d564a7da3e54b25726005dc6e5659298a3bf43524fa3aa51d0845325fa4a3e06", func := "loop.example/g00986/laws.FnExactEncodePacket", spec := "fnExactEncodePacket", unfollowed := true, recurses := true, apart := false }
def FnExactEncodePacketSaid : Prop := fnExactEncodePacketRow.holds Try.pinned (OpenSpec.ofChange fnExactEncodePacketSpec)

/-- ITS FALSE NEIGHBOUR: 'it returns false'. Refute it at one input. -/
def fnExactEncodePacketWrong : ChangeSpec := { name := "fnExactEncodePacket", fn := fun _ => fun
  | [d] => { results := [.lit (.bool false)], args := [d] }
  | _ => none }
def FnExactEncodePacketWrongFalsely : Prop := fnExactEncodePacketRow.holds Try.pinned (OpenSpec.ofChange fnExactEncodePacketWrong)

/-- 'laws.FnExactDecodePacket': WHATEVER THE INPUT: true; the input reads as it did. -/
def fnExactDecodePacketSpec : ChangeSpec := { name := "fnExactDecodePacket", fn := fun _ => fun
  | [d] => { results := [.lit (.bool true)], args := [d] }
  | _ => none }
def fnExactDecodePacketRow : OpenClaim := { program := "ytncaalbbiflnpaa", sum := "d564a7da3e54b25726005dc6e5659298a3bf43524fa3aa51d0845325fa4a3e06", func := "loop.example/g00986/laws.FnExactDecodePacket", spec := "fnExactDecodePacket", unfollowed := true, recurses := true, apart := false }
def FnExactDecodePacketSaid : Prop := fnExactDecodePacketRow.holds Try.pinned (OpenSpec.ofChange fnExactDecodePacketSpec)

/-- ITS FALSE NEIGHBOUR: 'it returns false'. Refute it at one input. -/
def fnExactDecodePacketWrong : ChangeSpec := { name := "fnExactDecodePacket", fn := fun _ => fun
  | [d] => { results := [.lit (.bool false)], args := [d] }
  | _ => none }
def FnExactDecodePacketWrongFalsely : Prop := fnExactDecodePacketRow.holds Try.pinned (OpenSpec.ofChange fnExactDecodePacketWrong)

/- THE SECOND FORM. 'bulk': how many values and letters a reading holds, each counted each time it is reached (what is shared counts as often as it is met; a slice's spare places count too). A statement '..UptoSaid' is the law's where the arguments, and the package variables that the reading takes, are together of bulk at most 1048576: NARROWER than '..Said'. Prove '..Said' where nothing that the law and all that it calls make is longer than what came in: it says more and counts as full. Else prove '..UptoSaid'. A law counts once. -/
mutual
def uptoBulk {H : Type} : DataW H → Nat
  | .lit (.string bytes) => bytes.length + 1
  | .lit _ => 1
  | .nil => 1
  | .ptr d => uptoBulk d + 1
  | .slice elems spare => uptoBulkAll elems + uptoBulkAll spare + 1
  | .agg parts => uptoBulkAll parts + 1
  | .iface _ d => uptoBulk d + 1
  | .map entries => uptoBulkEntries entries + 1
  | .held _ => 1
def uptoBulkAll {H : Type} : List (DataW H) → Nat
  | [] => 0
  | d :: r => uptoBulk d + uptoBulkAll r
def uptoBulkEntries {H : Type} : List (Lit × DataW H) → Nat
  | [] => 0
  | x :: r => uptoBulkEntry x + uptoBulkEntries r
def uptoBulkEntry {H : Type} : Lit × DataW H → Nat
  | (.string bytes, d) => bytes.length + uptoBulk d + 1
  | (_, d) => uptoBulk d + 1
 end
def uptoSmall : (H : Type) → List (DataW H) → Bool := fun _ ds => decide (uptoBulkAll ds ≤ 1048576)
def OpenSpec.upto (s : _root_.Go.ChangeSpec) : _root_.Go.OpenSpec := { _root_.Go.OpenSpec.ofChange s with cond := some uptoSmall }

/-- 'laws.FnExactAreBytes', WHERE WHAT IT READS IS OF BULK AT MOST 1048576: true; the input reads as it did. -/
def fnExactAreBytesUptoRow : OpenClaim := { program := "ytncaalbbiflnpaa", sum := "d564a7da3e54b25726005dc6e5659298a3bf43524fa3aa51d0845325fa4a3e06", func := "loop.example/g00986/laws.FnExactAreBytes", spec := "fnExactAreBytes", unfollowed := true, recurses := true, apart := false, narrowed := true }
def FnExactAreBytesUptoSaid : Prop := fnExactAreBytesUptoRow.holds Try.pinned (OpenSpec.upto fnExactAreBytesSpec)

/-- 'laws.FnExactCheckOf', WHERE WHAT IT READS IS OF BULK AT MOST 1048576: true; the input reads as it did. -/
def fnExactCheckOfUptoRow : OpenClaim := { program := "ytncaalbbiflnpaa", sum := "d564a7da3e54b25726005dc6e5659298a3bf43524fa3aa51d0845325fa4a3e06", func := "loop.example/g00986/laws.FnExactCheckOf", spec := "fnExactCheckOf", unfollowed := true, recurses := true, apart := false, narrowed := true }
def FnExactCheckOfUptoSaid : Prop := fnExactCheckOfUptoRow.holds Try.pinned (OpenSpec.upto fnExactCheckOfSpec)

/-- 'laws.FnExactFlipBit', WHERE WHAT IT READS IS OF BULK AT MOST 1048576: true; the input reads as it did. -/
def fnExactFlipBitUptoRow : OpenClaim := { program := "ytncaalbbiflnpaa", sum := "d564a7da3e54b25726005dc6e5659298a3bf43524fa3aa51d0845325fa4a3e06", func := "loop.example/g00986/laws.FnExactFlipBit", spec := "fnExactFlipBit", unfollowed := true, recurses := true, apart := false, narrowed := true }
def FnExactFlipBitUptoSaid : Prop := fnExactFlipBitUptoRow.holds Try.pinned (OpenSpec.upto fnExactFlipBitSpec)

/-- 'laws.FnExactSamePacket', WHERE WHAT IT READS IS OF BULK AT MOST 1048576: true; the input reads as it did. -/
def fnExactSamePacketUptoRow : OpenClaim := { program := "ytncaalbbiflnpaa", sum := "d564a7da3e54b25726005dc6e5659298a3bf43524fa3aa51d0845325fa4a3e06", func := "loop.example/g00986/laws.FnExactSamePacket", spec := "fnExactSamePacket", apart := false, narrowed := true }
def FnExactSamePacketUptoSaid : Prop := fnExactSamePacketUptoRow.holds Try.pinned (OpenSpec.upto fnExactSamePacketSpec)

/-- 'laws.FnExactDistanceOf', WHERE WHAT IT READS IS OF BULK AT MOST 1048576: true; the input reads as it did. -/
def fnExactDistanceOfUptoRow : OpenClaim := { program := "ytncaalbbiflnpaa", sum := "d564a7da3e54b25726005dc6e5659298a3bf43524fa3aa51d0845325fa4a3e06", func := "loop.example/g00986/laws.FnExactDistanceOf", spec := "fnExactDistanceOf", unfollowed := true, recurses := true, apart := false, narrowed := true }
def FnExactDistanceOfUptoSaid : Prop := fnExactDistanceOfUptoRow.holds Try.pinned (OpenSpec.upto fnExactDistanceOfSpec)

/-- 'laws.FnExactAddCheck', WHERE WHAT IT READS IS OF BULK AT MOST 1048576: true; the input reads as it did. -/
def fnExactAddCheckUptoRow : OpenClaim := { program := "ytncaalbbiflnpaa", sum := "d564a7da3e54b25726005dc6e5659298a3bf43524fa3aa51d0845325fa4a3e06", func := "loop.example/g00986/laws.FnExactAddCheck", spec := "fnExactAddCheck", unfollowed := true, recurses := true, apart := false, narrowed := true }
def FnExactAddCheckUptoSaid : Prop := fnExactAddCheckUptoRow.holds Try.pinned (OpenSpec.upto fnExactAddCheckSpec)

/-- 'laws.FnExactTakeCheck', WHERE WHAT IT READS IS OF BULK AT MOST 1048576: true; the input reads as it did. -/
def fnExactTakeCheckUptoRow : OpenClaim := { program := "ytncaalbbiflnpaa", sum := "d564a7da3e54b25726005dc6e5659298a3bf43524fa3aa51d0845325fa4a3e06", func := "loop.example/g00986/laws.FnExactTakeCheck", spec := "fnExactTakeCheck", unfollowed := true, recurses := true, apart := false, narrowed := true }
def FnExactTakeCheckUptoSaid : Prop := fnExactTakeCheckUptoRow.holds Try.pinned (OpenSpec.upto fnExactTakeCheckSpec)

/-- 'laws.FnExactIsPacket', WHERE WHAT IT READS IS OF BULK AT MOST 1048576: true; the input reads as it did. -/
def fnExactIsPacketUptoRow : OpenClaim := { program := "ytncaalbbiflnpaa", sum := "d564a7da3e54b25726005dc6e5659298a3bf43524fa3aa51d0845325fa4a3e06", func := "loop.example/g00986/laws.FnExactIsPacket", spec := "fnExactIsPacket", unfollowed := true, recurses := true, apart := false, narrowed := true }
def FnExactIsPacketUptoSaid : Prop := fnExactIsPacketUptoRow.holds Try.pinned (OpenSpec.upto fnExactIsPacketSpec)

/-- 'laws.FnExactPacketUnits', WHERE WHAT IT READS IS OF BULK AT MOST 1048576: true; the input reads as it did. -/
def fnExactPacketUnitsUptoRow : OpenClaim := { program := "ytncaalbbiflnpaa", sum := "d564a7da3e54b25726005dc6e5659298a3bf43524fa3aa51d0845325fa4a3e06", func := "loop.example/g00986/laws.FnExactPacketUnits", spec := "fnExactPacketUnits", unfollowed := true, recurses := true, apart := false, narrowed := true }
def FnExactPacketUnitsUptoSaid : Prop := fnExactPacketUnitsUptoRow.holds Try.pinned (OpenSpec.upto fnExactPacketUnitsSpec)

/-- 'laws.FnExactClassOf', WHERE WHAT IT READS IS OF BULK AT MOST 1048576: true; the input reads as it did. -/
def fnExactClassOfUptoRow : OpenClaim := { program := "ytncaalbbiflnpaa", sum := "d564a7da3e54b25726005dc6e5659298a3bf43524fa3aa51d0845325fa4a3e06", func := "loop.example/g00986/laws.FnExactClassOf", spec := "fnExactClassOf", unfollowed := true, recurses := true, apart := false, narrowed := true }
def FnExactClassOfUptoSaid : Prop := fnExactClassOfUptoRow.holds Try.pinned (OpenSpec.upto fnExactClassOfSpec)

/-- 'laws.FnExactEncodePacket', WHERE WHAT IT READS IS OF BULK AT MOST 1048576: true; the input reads as it did. -/
def fnExactEncodePacketUptoRow : OpenClaim := { program := "ytncaalbbiflnpaa", sum := "d564a7da3e54b25726005dc6e5659298a3bf43524fa3aa51d0845325fa4a3e06", func := "loop.example/g00986/laws.FnExactEncodePacket", spec := "fnExactEncodePacket", unfollowed := true, recurses := true, apart := false, narrowed := true }
def FnExactEncodePacketUptoSaid : Prop := fnExactEncodePacketUptoRow.holds Try.pinned (OpenSpec.upto fnExactEncodePacketSpec)

/-- 'laws.FnExactDecodePacket', WHERE WHAT IT READS IS OF BULK AT MOST 1048576: true; the input reads as it did. -/
def fnExactDecodePacketUptoRow : OpenClaim := { program := "ytncaalbbiflnpaa", sum := "d564a7da3e54b25726005dc6e5659298a3bf43524fa3aa51d0845325fa4a3e06", func := "loop.example/g00986/laws.FnExactDecodePacket", spec := "fnExactDecodePacket", unfollowed := true, recurses := true, apart := false, narrowed := true }
def FnExactDecodePacketUptoSaid : Prop := fnExactDecodePacketUptoRow.holds Try.pinned (OpenSpec.upto fnExactDecodePacketSpec)

end Rows
end Go.Proofs.Ytncaalbbiflnpaa
