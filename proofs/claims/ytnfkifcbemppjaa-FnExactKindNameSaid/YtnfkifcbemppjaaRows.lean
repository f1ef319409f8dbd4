/-
  No cell of these rows narrows 'for every input' (looked for: loops, veiled, ifaces, maps, wideKeys, modest, calm, conditions, laid).
  DERIVED. THE GIVEN ROWS OF THIS SEAT. 11 by the template 'for every input the law returns true; each argument reads behind the call as it read before'; 0 by the template 'total and deterministic' (their statements: YtnfkifcbemppjaaTotals.lean).
  GIVEN WITH THE SEED: the statements are not yours to turn. If you find one false, say at which input.
  Laid BY PROGRAM, IN A SANDBOX (cutbox-rows.mjs): the forced cells as the released guide's own fill.sh prints them over the translation 2de4d92a86714dbf… (all of the seat's roots in one cut). By AI agents, Wed Nov 11 2026. No macro, syntax, notation, axiom, sorry.
-/
import Derived.Test.YtnfkifcbemppjaaChecked
import GoSem.Claim
import GoSem.ClaimJoined
import GoSem.ClaimMapViews
import Derived.JoinedTies
import Derived.KernelRfl
namespace Go.Proofs.Ytnfkifcbemppjaa
/- THE CELL 'sum', in the pinned program and in every row, IS THE sha256 OF THE DUMP (.gsa) THAT YtnfkifcbemppjaaProg.lean LOADS. Nothing in Lean hashes anything: it is a label: what it is worth is what the hold of that sum in a sandbox is worth. -/
noncomputable def Try.pinned : Pinned := { name := "ytnfkifcbemppjaa", sum := "2de4d92a86714dbfe5448409ad5217026be496b7ae2d770601701d1023f3e323", checked := Try.checked }
namespace Rows
def none {H : Type} : Left H := { results := [], args := [] }

/-- 'laws.FnExactConstants': WHATEVER THE INPUT: true; the input reads as it did. -/
def fnExactConstantsSpec : ChangeSpec := { name := "fnExactConstants", fn := fun _ => fun
  | [] => { results := [.lit (.bool true)], args := [] }
  | _ => none }
def fnExactConstantsRow : OpenClaim := { program := "ytnfkifcbemppjaa", sum := "2de4d92a86714dbfe5448409ad5217026be496b7ae2d770601701d1023f3e323", func := "loop.example/g00986/laws.FnExactConstants", spec := "fnExactConstants", apart := false }
def FnExactConstantsSaid : Prop := fnExactConstantsRow.holds Try.pinned (OpenSpec.ofChange fnExactConstantsSpec)

/-- ITS FALSE NEIGHBOUR: 'it returns false'. Refute it at one input. -/
def fnExactConstantsWrong : ChangeSpec := { name := "fnExactConstants", fn := fun _ => fun
  | [] => { results := [.lit (.bool false)], args := [] }
  | _ => none }
def FnExactConstantsWrongFalsely : Prop := fnExactConstantsRow.holds Try.pinned (OpenSpec.ofChange fnExactConstantsWrong)

/-- 'laws.FnExactIsId': WHATEVER THE INPUT: true; the input reads as it did. -/
def fnExactIsIdSpec : ChangeSpec := { name := "fnExactIsId", fn := fun _ => fun
  | [d] => { results := [.lit (.bool true)], args := [d] }
  | _ => none }
def fnExactIsIdRow : OpenClaim := { program := "ytnfkifcbemppjaa", sum := "2de4d92a86714dbfe5448409ad5217026be496b7ae2d770601701d1023f3e323", func := "loop.example/g00986/laws.FnExactIsId", spec := "fnExactIsId", apart := false }
def FnExactIsIdSaid : Prop := fnExactIsIdRow.holds Try.pinned (OpenSpec.ofChange fnExactIsIdSpec)

/-- ITS FALSE NEIGHBOUR: 'it returns false'. Refute it at one input. -/
def fnExactIsIdWrong : ChangeSpec := { name := "fnExactIsId", fn := fun _ => fun
  | [d] => { results := [.lit (.bool false)], args := [d] }
  | _ => none }
def FnExactIsIdWrongFalsely : Prop := fnExactIsIdRow.holds Try.pinned (OpenSpec.ofChange fnExactIsIdWrong)

/-- 'laws.FnExactIsSeq': WHATEVER THE INPUT: true; the input reads as it did. -/
def fnExactIsSeqSpec : ChangeSpec := { name := "fnExactIsSeq", fn := fun _ => fun
  | [d] => { results := [.lit (.bool true)], args := [d] }
  | _ => none }
def fnExactIsSeqRow : OpenClaim := { program := "ytnfkifcbemppjaa", sum := "2de4d92a86714dbfe5448409ad5217026be496b7ae2d770601701d1023f3e323", func := "loop.example/g00986/laws.FnExactIsSeq", spec := "fnExactIsSeq", apart := false }
def FnExactIsSeqSaid : Prop := fnExactIsSeqRow.holds Try.pinned (OpenSpec.ofChange fnExactIsSeqSpec)

/-- ITS FALSE NEIGHBOUR: 'it returns false'. Refute it at one input. -/
def fnExactIsSeqWrong : ChangeSpec := { name := "fnExactIsSeq", fn := fun _ => fun
  | [d] => { results := [.lit (.bool false)], args := [d] }
  | _ => none }
def FnExactIsSeqWrongFalsely : Prop := fnExactIsSeqRow.holds Try.pinned (OpenSpec.ofChange fnExactIsSeqWrong)

/-- 'laws.FnExactKindName': WHATEVER THE INPUT: true; the input reads as it did. -/
def fnExactKindNameSpec : ChangeSpec := { name := "fnExactKindName", fn := fun _ => fun
  | [d] => { results := [.lit (.bool true)], args := [d] }
  | _ => none }
def fnExactKindNameRow : OpenClaim := { program := "ytnfkifcbemppjaa", sum := "2de4d92a86714dbfe5448409ad5217026be496b7ae2d770601701d1023f3e323", func := "loop.example/g00986/laws.FnExactKindName", spec := "fnExactKindName", apart := false }
def FnExactKindNameSaid : Prop := fnExactKindNameRow.holds Try.pinned (OpenSpec.ofChange fnExactKindNameSpec)

/-- ITS FALSE NEIGHBOUR: 'it returns false'. Refute it at one input. -/
def fnExactKindNameWrong : ChangeSpec := { name := "fnExactKindName", fn := fun _ => fun
  | [d] => { results := [.lit (.bool false)], args := [d] }
  | _ => none }
def FnExactKindNameWrongFalsely : Prop := fnExactKindNameRow.holds Try.pinned (OpenSpec.ofChange fnExactKindNameWrong)

/-- 'laws.FnExactMakeId': WHATEVER THE INPUT: true; the input reads as it did. -/
def fnExactMakeIdSpec : ChangeSpec := { name := "fnExactMakeId", fn := fun _ => fun
  | [d1, d2, d3] => { results := [.lit (.bool true)], args := [d1, d2, d3] }
  | _ => none }
def fnExactMakeIdRow : OpenClaim := { program := "ytnfkifcbemppjaa", sum := "2de4d92a86714dbfe5448409ad5217026be496b7ae2d770601701d1023f3e323", func := "loop.example/g00986/laws.FnExactMakeId", spec := "fnExactMakeId", apart := false }
def FnExactMakeIdSaid : Prop := fnExactMakeIdRow.holds Try.pinned (OpenSpec.ofChange fnExactMakeIdSpec)

/-- ITS FALSE NEIGHBOUR: 'it returns false'. Refute it at one input. -/
def fnExactMakeIdWrong : ChangeSpec := { name := "fnExactMakeId", fn := fun _ => fun
  | [d1, d2, d3] => { results := [.lit (.bool false)], args := [d1, d2, d3] }
  | _ => none }
def FnExactMakeIdWrongFalsely : Prop := fnExactMakeIdRow.holds Try.pinned (OpenSpec.ofChange fnExactMakeIdWrong)

/-- 'laws.FnExactClamp': WHATEVER THE INPUT: true; the input reads as it did. -/
def fnExactClampSpec : ChangeSpec := { name := "fnExactClamp", fn := fun _ => fun
  | [d1, d2, d3] => { results := [.lit (.bool true)], args := [d1, d2, d3] }
  | _ => none }
def fnExactClampRow : OpenClaim := { program := "ytnfkifcbemppjaa", sum := "2de4d92a86714dbfe5448409ad5217026be496b7ae2d770601701d1023f3e323", func := "loop.example/g00986/laws.FnExactClamp", spec := "fnExactClamp", apart := false }
def FnExactClampSaid : Prop := fnExactClampRow.holds Try.pinned (OpenSpec.ofChange fnExactClampSpec)

/-- ITS FALSE NEIGHBOUR: 'it returns false'. Refute it at one input. -/
def fnExactClampWrong : ChangeSpec := { name := "fnExactClamp", fn := fun _ => fun
  | [d1, d2, d3] => { results := [.lit (.bool false)], args := [d1, d2, d3] }
  | _ => none }
def FnExactClampWrongFalsely : Prop := fnExactClampRow.holds Try.pinned (OpenSpec.ofChange fnExactClampWrong)

/-- 'laws.FnExactSplitWord': WHATEVER THE INPUT: true; the input reads as it did. -/
def fnExactSplitWordSpec : ChangeSpec := { name := "fnExactSplitWord", fn := fun _ => fun
  | [d] => { results := [.lit (.bool true)], args := [d] }
  | _ => none }
def fnExactSplitWordRow : OpenClaim := { program := "ytnfkifcbemppjaa", sum := "2de4d92a86714dbfe5448409ad5217026be496b7ae2d770601701d1023f3e323", func := "loop.example/g00986/laws.FnExactSplitWord", spec := "fnExactSplitWord", apart := false }
def FnExactSplitWordSaid : Prop := fnExactSplitWordRow.holds Try.pinned (OpenSpec.ofChange fnExactSplitWordSpec)

/-- ITS FALSE NEIGHBOUR: 'it returns false'. Refute it at one input. -/
def fnExactSplitWordWrong : ChangeSpec := { name := "fnExactSplitWord", fn := fun _ => fun
  | [d] => { results := [.lit (.bool false)], args := [d] }
  | _ => none }
def FnExactSplitWordWrongFalsely : Prop := fnExactSplitWordRow.holds Try.pinned (OpenSpec.ofChange fnExactSplitWordWrong)

/-- 'laws.FnExactBusOf': WHATEVER THE INPUT: true; the input reads as it did. -/
def fnExactBusOfSpec : ChangeSpec := { name := "fnExactBusOf", fn := fun _ => fun
  | [d] => { results := [.lit (.bool true)], args := [d] }
  | _ => none }
def fnExactBusOfRow : OpenClaim := { program := "ytnfkifcbemppjaa", sum := "2de4d92a86714dbfe5448409ad5217026be496b7ae2d770601701d1023f3e323", func := "loop.example/g00986/laws.FnExactBusOf", spec := "fnExactBusOf", apart := false }
def FnExactBusOfSaid : Prop := fnExactBusOfRow.holds Try.pinned (OpenSpec.ofChange fnExactBusOfSpec)

/-- ITS FALSE NEIGHBOUR: 'it returns false'. Refute it at one input. -/
def fnExactBusOfWrong : ChangeSpec := { name := "fnExactBusOf", fn := fun _ => fun
  | [d] => { results := [.lit (.bool false)], args := [d] }
  | _ => none }
def FnExactBusOfWrongFalsely : Prop := fnExactBusOfRow.holds Try.pinned (OpenSpec.ofChange fnExactBusOfWrong)

/-- 'laws.FnExactDeviceOf': WHATEVER THE INPUT: true; the input reads as it did. -/
def fnExactDeviceOfSpec : ChangeSpec := { name := "fnExactDeviceOf", fn := fun _ => fun
  | [d] => { results := [.lit (.bool true)], args := [d] }
  | _ => none }
def fnExactDeviceOfRow : OpenClaim := { program := "ytnfkifcbemppjaa", sum := "2de4d92a86714dbfe5448409ad5217026be496b7ae2d770601701d1023f3e323", func := "loop.example/g00986/laws.FnExactDeviceOf", spec := "fnExactDeviceOf", apart := false }
def FnExactDeviceOfSaid : Prop := fnExactDeviceOfRow.holds Try.pinned (OpenSpec.ofChange fnExactDeviceOfSpec)

/-- ITS FALSE NEIGHBOUR: 'it returns false'. Refute it at one input. -/
def fnExactDeviceOfWrong : ChangeSpec := { name := "fnExactDeviceOf", fn := fun _ => fun
  | [d] => { results := [.lit (.bool false)], args := [d] }
  | _ => none }
def FnExactDeviceOfWrongFalsely : Prop := fnExactDeviceOfRow.holds Try.pinned (OpenSpec.ofChange fnExactDeviceOfWrong)

/-- 'laws.FnExactFunctionOf': WHATEVER THE INPUT: true; the input reads as it did. -/
def fnExactFunctionOfSpec : ChangeSpec := { name := "fnExactFunctionOf", fn := fun _ => fun
  | [d] => { results := [.lit (.bool true)], args := [d] }
  | _ => none }
def fnExactFunctionOfRow : OpenClaim := { program := "ytnfkifcbemppjaa", sum := "2de4d92a86714dbfe5448409ad5217026be496b7ae2d770601701d1023f3e323", func := "loop.example/g00986/laws.FnExactFunctionOf", spec := "fnExactFunctionOf", apart := false }
def FnExactFunctionOfSaid : Prop := fnExactFunctionOfRow.holds Try.pinned (OpenSpec.ofChange fnExactFunctionOfSpec)

/-- ITS FALSE NEIGHBOUR: 'it returns false'. Refute it at one input. -/
def fnExactFunctionOfWrong : ChangeSpec := { name := "fnExactFunctionOf", fn := fun _ => fun
  | [d] => { results := [.lit (.bool false)], args := [d] }
  | _ => none }
def FnExactFunctionOfWrongFalsely : Prop := fnExactFunctionOfRow.holds Try.pinned (OpenSpec.ofChange fnExactFunctionOfWrong)

/-- 'laws.FnExactNextSeq': WHATEVER THE INPUT: true; the input reads as it did. -/
def fnExactNextSeqSpec : ChangeSpec := { name := "fnExactNextSeq", fn := fun _ => fun
  | [d] => { results := [.lit (.bool true)], args := [d] }
  | _ => none }
def fnExactNextSeqRow : OpenClaim := { program := "ytnfkifcbemppjaa", sum := "2de4d92a86714dbfe5448409ad5217026be496b7ae2d770601701d1023f3e323", func := "loop.example/g00986/laws.FnExactNextSeq", spec := "fnExactNextSeq", apart := false }
def FnExactNextSeqSaid : Prop := fnExactNextSeqRow.holds Try.pinned (OpenSpec.ofChange fnExactNextSeqSpec)

/-- ITS FALSE NEIGHBOUR: 'it returns false'. Refute it at one input. -/
def fnExactNextSeqWrong : ChangeSpec := { name := "fnExactNextSeq", fn := fun _ => fun
  | [d] => { results := [.lit (.bool false)], args := [d] }
  | _ => none }
def FnExactNextSeqWrongFalsely : Prop := fnExactNextSeqRow.holds Try.pinned (OpenSpec.ofChange fnExactNextSeqWrong)

/- THE SECOND FORM. 'bulk': how many values and letters a reading holds, each counted each time it is reached (what is shared counts as often as it is met; a slice's spare places count too). A statement '..UptoSaid' is the law's where the arguments, and the package variables that the reading takes, are together of bulk at most 1048576: NARROWER than '..Said'. Prove '..Said' where nothing that the law and all that it calls make is longer than what came in: it says more and counts as full. Else prove '..UptoSaid'. A law counts once. -/
mutual
def uptoBulk {H : Type} : DataW H → Nat
  | .lit (.string bytes) => bytes.length + 1
  | .lit _ => 1
  | .nil => 1
  | .ptr d => uptoBulk d + 1
  | .slice elems spare => uptoBulkAll elems + uptoBulkAll spare + 1
  | .agg parts => uptoBulkAll parts + 1
  | .iface _ d => uptoBulk d + 1
  | .map entries => uptoBulkEntries entries + 1
  | .held _ => 1
def uptoBulkAll {H : Type} : List (DataW H) → Nat
  | [] => 0
  | d :: r => uptoBulk d + uptoBulkAll r
def uptoBulkEntries {H : Type} : List (Lit × DataW H) → Nat
  | [] => 0
  | x :: r => uptoBulkEntry x + uptoBulkEntries r
def uptoBulkEntry {H : Type} : Lit × DataW H → Nat
  | (.string bytes, d) => bytes.length + uptoBulk d + 1
  | (_, d) => uptoBulk d + 1
 end
def uptoSmall : (H : Type) → List (DataW H) → Bool := fun _ ds => decide (uptoBulkAll ds ≤ 1048576)
def OpenSpec.upto (s : _root_.Go.ChangeSpec) : _root_.Go.OpenSpec := { _root_.Go.OpenSpec.ofChange s with cond := some uptoSmall }

/-- 'laws.FnExactConstants', WHERE WHAT IT READS IS OF BULK AT MOST 1048576: true; the input reads as it did. -/
def fnExactConstantsUptoRow : OpenClaim := { program := "ytnfkifcbemppjaa", sum := "2de4d92a86714dbfe5448409ad5217026be496b7ae2d770601701d1023f3e323", func := "loop.example/g00986/laws.FnExactConstants", spec := "fnExactConstants", apart := false, narrowed := true }
def FnExactConstantsUptoSaid : Prop := fnExactConstantsUptoRow.holds Try.pinned (OpenSpec.upto fnExactConstantsSpec)

/-- 'laws.FnExactIsId', WHERE WHAT IT READS IS OF BULK AT MOST 1048576: true; the input reads as it did. -/
def fnExactIsIdUptoRow : OpenClaim := { program := "ytnfkifcbemppjaa", sum := "2de4d92a86714dbfe5448409ad5217026be496b7ae2d770601701d1023f3e323", func := "loop.example/g00986/laws.FnExactIsId", spec := "fnExactIsId", apart := false, narrowed := true }
def FnExactIsIdUptoSaid : Prop := fnExactIsIdUptoRow.holds Try.pinned (OpenSpec.upto fnExactIsIdSpec)

/-- 'laws.FnExactIsSeq', WHERE WHAT IT READS IS OF BULK AT MOST 1048576: true; the input reads as it did. -/
def fnExactIsSeqUptoRow : OpenClaim := { program := "ytnfkifcbemppjaa", sum := "2de4d92a86714dbfe5448409ad5217026be496b7ae2d770601701d1023f3e323", func := "loop.example/g00986/laws.FnExactIsSeq", spec := "fnExactIsSeq", apart := false, narrowed := true }
def FnExactIsSeqUptoSaid : Prop := fnExactIsSeqUptoRow.holds Try.pinned (OpenSpec.upto fnExactIsSeqSpec)

/-- 'laws.FnExactKindName', WHERE WHAT IT READS IS OF BULK AT MOST 1048576: true; the input reads as it did. -/
def fnExactKindNameUptoRow : OpenClaim := { program := "ytnfkifcbemppjaa", sum := "2de4d92a86714dbfe5448409ad5217026be496b7ae2d770601701d1023f3e323", func := "loop.example/g00986/laws.FnExactKindName", spec := "fnExactKindName", apart := false, narrowed := true }
def FnExactKindNameUptoSaid : Prop := fnExactKindNameUptoRow.holds Try.pinned (OpenSpec.upto fnExactKindNameSpec)

/-- 'laws.FnExactMakeId', WHERE WHAT IT READS IS OF BULK AT MOST 1048576: true; the input reads as it did. -/
def fnExactMakeIdUptoRow : OpenClaim := { program := "ytnfkifcbemppjaa", sum := "2de4d92a86714dbfe5448409ad5217026be496b7ae2d770601701d1023f3e323", func := "loop.example/g00986/laws.FnExactMakeId", spec := "fnExactMakeId", apart := false, narrowed := true }
def FnExactMakeIdUptoSaid : Prop := fnExactMakeIdUptoRow.holds Try.pinned (OpenSpec.upto fnExactMakeIdSpec)

/-- 'laws.FnExactClamp', WHERE WHAT IT READS IS OF BULK AT MOST 1048576: true; the input reads as it did. -/
def fnExactClampUptoRow : OpenClaim := { program := "ytnfkifcbemppjaa", sum := "2de4d92a86714dbfe5448409ad5217026be496b7ae2d770601701d1023f3e323", func := "loop.example/g00986/laws.FnExactClamp", spec := "fnExactClamp", apart := false, narrowed := true }
def FnExactClampUptoSaid : Prop := fnExactClampUptoRow.holds Try.pinned (OpenSpec.upto fnExactClampSpec)

/-- 'laws.FnExactSplitWord', WHERE WHAT IT READS IS OF BULK AT MOST 1048576: true; the input reads as it did. -/
def fnExactSplitWordUptoRow : OpenClaim := { program := "ytnfkifcbemppjaa", sum := "2de4d92a86714dbfe5448409ad5217026be496b7ae2d770601701d1023f3e323", func := "loop.example/g00986/laws.FnExactSplitWord", spec := "fnExactSplitWord", apart := false, narrowed := true }
def FnExactSplitWordUptoSaid : Prop := fnExactSplitWordUptoRow.holds Try.pinned (OpenSpec.upto fnExactSplitWordSpec)

/-- 'laws.FnExactBusOf', WHERE WHAT IT READS IS OF BULK AT MOST 1048576: true; the input reads as it did. -/
def fnExactBusOfUptoRow : OpenClaim := { program := "ytnfkifcbemppjaa", sum := "2de4d92a86714dbfe5448409ad5217026be496b7ae2d770601701d1023f3e323", func := "loop.example/g00986/laws.FnExactBusOf", spec := "fnExactBusOf", apart := false, narrowed := true }
def FnExactBusOfUptoSaid : Prop := fnExactBusOfUptoRow.holds Try.pinned (OpenSpec.upto fnExactBusOfSpec)

/-- 'laws.FnExactDeviceOf', WHERE WHAT IT READS IS OF BULK AT MOST 1048576: true; the input reads as it did. -/
def fnExactDeviceOfUptoRow : OpenClaim := { program := "ytnfkifcbemppjaa", sum := "2de4d92a86714dbfe5448409ad5217026be496b7ae2d770601701d1023f3e323", func := "loop.example/g00986/laws.FnExactDeviceOf", spec := "fnExactDeviceOf", apart := false, narrowed := true }
def FnExactDeviceOfUptoSaid : Prop := fnExactDeviceOfUptoRow.holds Try.pinned (OpenSpec.upto fnExactDeviceOfSpec)

/-- 'laws.FnExactFunctionOf', WHERE WHAT IT READS IS OF BULK AT MOST 1048576: true; the input reads as it did. -/
def fnExactFunctionOfUptoRow : OpenClaim := { program := "ytnfkifcbemppjaa", sum := "2de4d92a86714dbfe5448409ad5217026be496b7ae2d770601701d1023f3e323", func := "loop.example/g00986/laws.FnExactFunctionOf", spec := "fnExactFunctionOf", apart := false, narrowed := true }
def FnExactFunctionOfUptoSaid : Prop := fnExactFunctionOfUptoRow.holds Try.pinned (OpenSpec.upto fnExactFunctionOfSpec)

/-- 'laws.FnExactNextSeq', WHERE WHAT IT READS IS OF BULK AT MOST 1048576: true; the input reads as it did. -/
def fnExactNextSeqUptoRow : OpenClaim := { program := "ytnfkifcbemppjaa", sum := "2de4d92a86714dbfe5448409ad5217026be496b7ae2d770601701d1023f3e323", func := "loop.example/g00986/laws.FnExactNextSeq", spec := "fnExactNextSeq", apart := false, narrowed := true }
def FnExactNextSeqUptoSaid : Prop := fnExactNextSeqUptoRow.holds Try.pinned (OpenSpec.upto fnExactNextSeqSpec)

end Rows
end Go.Proofs.Ytnfkifcbemppjaa
