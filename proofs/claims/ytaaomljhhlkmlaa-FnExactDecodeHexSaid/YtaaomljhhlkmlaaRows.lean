/-
  No cell of these rows narrows 'for every input' (looked for: loops, veiled, ifaces, maps, wideKeys, modest, calm, conditions, laid).
  DERIVED. THE GIVEN ROWS OF THIS SEAT. 12 by the template 'for every input the law returns true; each argument reads behind the call as it read before'; 0 by the template 'total and deterministic' (their statements: YtaaomljhhlkmlaaTotals.lean).
  GIVEN WITH THE SEED: the statements are not yours to turn. If you find one false, say at which input.
  Laid BY PROGRAM, IN A SANDBOX (cutbox-rows.mjs): the forced cells as the released guide's own fill.sh prints them over the translation 40dd9cb3f4c36ee4… (all of the seat's roots in one cut). By AI agents, Wed Nov 11 2026. No macro, syntax, notation, axiom, sorry.
-/
import Derived.Test.YtaaomljhhlkmlaaChecked
import GoSem.Claim
import GoSem.ClaimJoined
import GoSem.ClaimMapViews
import Derived.JoinedTies
import Derived.KernelRfl
namespace Go.Proofs.Ytaaomljhhlkmlaa
/- THE CELL 'sum', in the pinned program and in every row, IS THE sha256 OF THE DUMP (.gsa) THAT YtaaomljhhlkmlaaProg.lean LOADS. Nothing in Lean hashes anything: it is a label: what it is worth is what the hold of that sum in a sandbox is worth. -/
noncomputable def Try.pinned : Pinned := { name := "ytaaomljhhlkmlaa", sum := "40dd9cb3f4c36ee4e95f84c04c51c7e4cebceb6ed69a82c8229b0292ee9f5726", checked := Try.checked }
namespace Rows
def none {H : Type} : Left H := { results := [], args := [] }

/-- 'laws.FnExactSeqDistance': WHATEVER THE INPUT: true; the input reads as it did. -/
def fnExactSeqDistanceSpec : ChangeSpec := { name := "fnExactSeqDistance", fn := fun _ => fun
  | [d1, d2] => { results := [.lit (.bool true)], args := [d1, d2] }
  | _ => none }
def fnExactSeqDistanceRow : OpenClaim := { program := "ytaaomljhhlkmlaa", sum := "40dd9cb3f4c36ee4e95f84c04c51c7e4cebceb6ed69a82c8229b0292ee9f5726", func := "loop.example/g00986/laws.FnExactSeqDistance", spec := "fnExactSeqDistance", apart := false }
def FnExactSeqDistanceSaid : Prop := fnExactSeqDistanceRow.holds Try.pinned (OpenSpec.ofChange fnExactSeqDistanceSpec)

/-- ITS FALSE NEIGHBOUR: 'it returns false'. Refute it at one input. -/
def fnExactSeqDistanceWrong : ChangeSpec := { name := "fnExactSeqDistance", fn := fun _ => fun
  | [d1, d2] => { results := [.lit (.bool false)], args := [d1, d2] }
  | _ => none }
def FnExactSeqDistanceWrongFalsely : Prop := fnExactSeqDistanceRow.holds Try.pinned (OpenSpec.ofChange fnExactSeqDistanceWrong)

/-- 'laws.FnExactFieldOf': WHATEVER THE INPUT: true; the input reads as it did. -/
def fnExactFieldOfSpec : ChangeSpec := { name := "fnExactFieldOf", fn := fun _ => fun
  | [d1, d2, d3] => { results := [.lit (.bool true)], args := [d1, d2, d3] }
  | _ => none }
def fnExactFieldOfRow : OpenClaim := { program := "ytaaomljhhlkmlaa", sum := "40dd9cb3f4c36ee4e95f84c04c51c7e4cebceb6ed69a82c8229b0292ee9f5726", func := "loop.example/g00986/laws.FnExactFieldOf", spec := "fnExactFieldOf", apart := false }
def FnExactFieldOfSaid : Prop := fnExactFieldOfRow.holds Try.pinned (OpenSpec.ofChange fnExactFieldOfSpec)

/-- ITS FALSE NEIGHBOUR: 'it returns false'. Refute it at one input. -/
def fnExactFieldOfWrong : ChangeSpec := { name := "fnExactFieldOf", fn := fun _ => fun
  | [d1, d2, d3] => { results := [.lit (.bool false)], args := [d1, d2, d3] }
  | _ => none }
def FnExactFieldOfWrongFalsely : Prop := fnExactFieldOfRow.holds Try.pinned (OpenSpec.ofChange fnExactFieldOfWrong)

/-- 'laws.FnExactIsOld': WHATEVER THE INPUT: true; the input reads as it did. -/
def fnExactIsOldSpec : ChangeSpec := { name := "fnExactIsOld", fn := fun _ => fun
  | [d1, d2] => { results := [.lit (.bool true)], args := [d1, d2] }
  | _ => none }
def fnExactIsOldRow : OpenClaim := { program := "ytaaomljhhlkmlaa", sum := "40dd9cb3f4c36ee4e95f84c04c51c7e4cebceb6ed69a82c8229b0292ee9f5726", func := "loop.example/g00986/laws.FnExactIsOld", spec := "fnExactIsOld", apart := false }
def FnExactIsOldSaid : Prop := fnExactIsOldRow.holds Try.pinned (OpenSpec.ofChange fnExactIsOldSpec)

/-- ITS FALSE NEIGHBOUR: 'it returns false'. Refute it at one input. -/
def fnExactIsOldWrong : ChangeSpec := { name := "fnExactIsOld", fn := fun _ => fun
  | [d1, d2] => { results := [.lit (.bool false)], args := [d1, d2] }
  | _ => none }
def FnExactIsOldWrongFalsely : Prop := fnExactIsOldRow.holds Try.pinned (OpenSpec.ofChange fnExactIsOldWrong)

/-- 'laws.FnExactWithField': WHATEVER THE INPUT: true; the input reads as it did. -/
def fnExactWithFieldSpec : ChangeSpec := { name := "fnExactWithField", fn := fun _ => fun
  | [d1, d2, d3, d4] => { results := [.lit (.bool true)], args := [d1, d2, d3, d4] }
  | _ => none }
def fnExactWithFieldRow : OpenClaim := { program := "ytaaomljhhlkmlaa", sum := "40dd9cb3f4c36ee4e95f84c04c51c7e4cebceb6ed69a82c8229b0292ee9f5726", func := "loop.example/g00986/laws.FnExactWithField", spec := "fnExactWithField", apart := false }
def FnExactWithFieldSaid : Prop := fnExactWithFieldRow.holds Try.pinned (OpenSpec.ofChange fnExactWithFieldSpec)

/-- ITS FALSE NEIGHBOUR: 'it returns false'. Refute it at one input. -/
def fnExactWithFieldWrong : ChangeSpec := { name := "fnExactWithField", fn := fun _ => fun
  | [d1, d2, d3, d4] => { results := [.lit (.bool false)], args := [d1, d2, d3, d4] }
  | _ => none }
def FnExactWithFieldWrongFalsely : Prop := fnExactWithFieldRow.holds Try.pinned (OpenSpec.ofChange fnExactWithFieldWrong)

/-- 'laws.FnExactIsPower': WHATEVER THE INPUT: true; the input reads as it did. -/
def fnExactIsPowerSpec : ChangeSpec := { name := "fnExactIsPower", fn := fun _ => fun
  | [d] => { results := [.lit (.bool true)], args := [d] }
  | _ => none }
def fnExactIsPowerRow : OpenClaim := { program := "ytaaomljhhlkmlaa", sum := "40dd9cb3f4c36ee4e95f84c04c51c7e4cebceb6ed69a82c8229b0292ee9f5726", func := "loop.example/g00986/laws.FnExactIsPower", spec := "fnExactIsPower", apart := false }
def FnExactIsPowerSaid : Prop := fnExactIsPowerRow.holds Try.pinned (OpenSpec.ofChange fnExactIsPowerSpec)

/-- ITS FALSE NEIGHBOUR: 'it returns false'. Refute it at one input. -/
def fnExactIsPowerWrong : ChangeSpec := { name := "fnExactIsPower", fn := fun _ => fun
  | [d] => { results := [.lit (.bool false)], args := [d] }
  | _ => none }
def FnExactIsPowerWrongFalsely : Prop := fnExactIsPowerRow.holds Try.pinned (OpenSpec.ofChange fnExactIsPowerWrong)

/-- 'laws.FnSequences': WHATEVER THE INPUT: true; the input reads as it did. -/
def fnSequencesSpec : ChangeSpec := { name := "fnSequences", fn := fun _ => fun
  | [d] => { results := [.lit (.bool true)], args := [d] }
  | _ => none }
def fnSequencesRow : OpenClaim := { program := "ytaaomljhhlkmlaa", sum := "40dd9cb3f4c36ee4e95f84c04c51c7e4cebceb6ed69a82c8229b0292ee9f5726", func := "loop.example/g00986/laws.FnSequences", spec := "fnSequences", apart := false }
def FnSequencesSaid : Prop := fnSequencesRow.holds Try.pinned (OpenSpec.ofChange fnSequencesSpec)

/-- ITS FALSE NEIGHBOUR: 'it returns false'. Refute it at one input. -/
def fnSequencesWrong : ChangeSpec := { name := "fnSequences", fn := fun _ => fun
  | [d] => { results := [.lit (.bool false)], args := [d] }
  | _ => none }
def FnSequencesWrongFalsely : Prop := fnSequencesRow.holds Try.pinned (OpenSpec.ofChange fnSequencesWrong)

/-- 'laws.FnClamped': WHATEVER THE INPUT: true; the input reads as it did. -/
def fnClampedSpec : ChangeSpec := { name := "fnClamped", fn := fun _ => fun
  | [d] => { results := [.lit (.bool true)], args := [d] }
  | _ => none }
def fnClampedRow : OpenClaim := { program := "ytaaomljhhlkmlaa", sum := "40dd9cb3f4c36ee4e95f84c04c51c7e4cebceb6ed69a82c8229b0292ee9f5726", func := "loop.example/g00986/laws.FnClamped", spec := "fnClamped", apart := false }
def FnClampedSaid : Prop := fnClampedRow.holds Try.pinned (OpenSpec.ofChange fnClampedSpec)

/-- ITS FALSE NEIGHBOUR: 'it returns false'. Refute it at one input. -/
def fnClampedWrong : ChangeSpec := { name := "fnClamped", fn := fun _ => fun
  | [d] => { results := [.lit (.bool false)], args := [d] }
  | _ => none }
def FnClampedWrongFalsely : Prop := fnClampedRow.holds Try.pinned (OpenSpec.ofChange fnClampedWrong)

/-- 'laws.FnExactCountOnes': WHATEVER THE INPUT: true; the input reads as it did. -/
def fnExactCountOnesSpec : ChangeSpec := { name := "fnExactCountOnes", fn := fun _ => fun
  | [d] => { results := [.lit (.bool true)], args := [d] }
  | _ => none }
def fnExactCountOnesRow : OpenClaim := { program := "ytaaomljhhlkmlaa", sum := "40dd9cb3f4c36ee4e95f84c04c51c7e4cebceb6ed69a82c8229b0292ee9f5726", func := "loop.example/g00986/laws.FnExactCountOnes", spec := "fnExactCountOnes", apart := false }
def FnExactCountOnesSaid : Prop := fnExactCountOnesRow.holds Try.pinned (OpenSpec.ofChange fnExactCountOnesSpec)

/-- ITS FALSE NEIGHBOUR: 'it returns false'. Refute it at one input. -/
def fnExactCountOnesWrong : ChangeSpec := { name := "fnExactCountOnes", fn := fun _ => fun
  | [d] => { results := [.lit (.bool false)], args := [d] }
  | _ => none }
def FnExactCountOnesWrongFalsely : Prop := fnExactCountOnesRow.holds Try.pinned (OpenSpec.ofChange fnExactCountOnesWrong)

/-- 'laws.FnExactRoundUp': WHATEVER THE INPUT: true; the input reads as it did. -/
def fnExactRoundUpSpec : ChangeSpec := { name := "fnExactRoundUp", fn := fun _ => fun
  | [d1, d2] => { results := [.lit (.bool true)], args := [d1, d2] }
  | _ => none }
def fnExactRoundUpRow : OpenClaim := { program := "ytaaomljhhlkmlaa", sum := "40dd9cb3f4c36ee4e95f84c04c51c7e4cebceb6ed69a82c8229b0292ee9f5726", func := "loop.example/g00986/laws.FnExactRoundUp", spec := "fnExactRoundUp", apart := false }
def FnExactRoundUpSaid : Prop := fnExactRoundUpRow.holds Try.pinned (OpenSpec.ofChange fnExactRoundUpSpec)

/-- ITS FALSE NEIGHBOUR: 'it returns false'. Refute it at one input. -/
def fnExactRoundUpWrong : ChangeSpec := { name := "fnExactRoundUp", fn := fun _ => fun
  | [d1, d2] => { results := [.lit (.bool false)], args := [d1, d2] }
  | _ => none }
def FnExactRoundUpWrongFalsely : Prop := fnExactRoundUpRow.holds Try.pinned (OpenSpec.ofChange fnExactRoundUpWrong)

/-- 'laws.FnFields': WHATEVER THE INPUT: true; the input reads as it did. -/
def fnFieldsSpec : ChangeSpec := { name := "fnFields", fn := fun _ => fun
  | [d] => { results := [.lit (.bool true)], args := [d] }
  | _ => none }
def fnFieldsRow : OpenClaim := { program := "ytaaomljhhlkmlaa", sum := "40dd9cb3f4c36ee4e95f84c04c51c7e4cebceb6ed69a82c8229b0292ee9f5726", func := "loop.example/g00986/laws.FnFields", spec := "fnFields", apart := false }
def FnFieldsSaid : Prop := fnFieldsRow.holds Try.pinned (OpenSpec.ofChange fnFieldsSpec)

/-- ITS FALSE NEIGHBOUR: 'it returns false'. Refute it at one input. -/
def fnFieldsWrong : ChangeSpec := { name := "fnFields", fn := fun _ => fun
  | [d] => { results := [.lit (.bool false)], args := [d] }
  | _ => none }
def FnFieldsWrongFalsely : Prop := fnFieldsRow.holds Try.pinned (OpenSpec.ofChange fnFieldsWrong)

/-- 'laws.FnExactEncodeHex': WHATEVER THE INPUT: true; the input reads as it did. -/
def fnExactEncodeHexSpec : ChangeSpec := { name := "fnExactEncodeHex", fn := fun _ => fun
  | [d] => { results := [.lit (.bool true)], args := [d] }
  | _ => none }
def fnExactEncodeHexRow : OpenClaim := { program := "ytaaomljhhlkmlaa", sum := "40dd9cb3f4c36ee4e95f84c04c51c7e4cebceb6ed69a82c8229b0292ee9f5726", func := "loop.example/g00986/laws.FnExactEncodeHex", spec := "fnExactEncodeHex", apart := false }
def FnExactEncodeHexSaid : Prop := fnExactEncodeHexRow.holds Try.pinned (OpenSpec.ofChange fnExactEncodeHexSpec)

/-- ITS FALSE NEIGHBOUR: 'it returns false'. Refute it at one input. -/
def fnExactEncodeHexWrong : ChangeSpec := { name := "fnExactEncodeHex", fn := fun _ => fun
  | [d] => { results := [.lit (.bool false)], args := [d] }
  | _ => none }
def FnExactEncodeHexWrongFalsely : Prop := fnExactEncodeHexRow.holds Try.pinned (OpenSpec.ofChange fnExactEncodeHexWrong)

/-- 'laws.FnExactDecodeHex': WHATEVER THE INPUT: true; the input reads as it did. -/
def fnExactDecodeHexSpec : ChangeSpec := { name := "fnExactDecodeHex", fn := fun _ => fun
  | [d] => { results := [.lit (.bool true)], args := [d] }
  | _ => none }
def fnExactDecodeHexRow : OpenClaim := { program := "ytaaomljhhlkmlaa", sum := "40dd9cb3f4c36ee4e95f84c04c51c7e4cebceb6ed69a82c8229b0292ee9f5726", func := "loop.example/g00986/laws.FnExactDecodeHex", spec := "fnExactDecodeHex", inPlace := ["internal/bytealg.IndexByteString"], apart := false }
def FnExactDecodeHexSaid : Prop := fnExactDecodeHexRow.holds Try.pinned (OpenSpec.ofChange fnExactDecodeHexSpec)

/-- ITS FALSE NEIGHBOUR: 'it returns false'. Refute it at one input. -/
def fnExactDecodeHexWrong : ChangeSpec := { name := "fnExactDecodeHex", fn := fun _ => fun
  | [d] => { results := [.lit (.bool false)], args := [d] }
  | _ => none }
def FnExactDecodeHexWrongFalsely : Prop := fnExactDecodeHexRow.holds Try.pinned (OpenSpec.ofChange fnExactDecodeHexWrong)

/- THE SECOND FORM. 'bulk': how many values and letters a reading holds, each counted each time it is reached (what is shared counts as often as it is met; a slice's spare places count too). A statement '..UptoSaid' is the law's where the arguments, and the package variables that the reading takes, are together of bulk at most 1048576: NARROWER than '..Said'. Prove '..Said' where nothing that the law and all that it calls make is longer than what came in: it says more and counts as full. Else prove '..UptoSaid'. A law counts once. -/
mutual
def uptoBulk {H : Type} : DataW H → Nat
  | .lit (.string bytes) => bytes.length + 1
  | .lit _ => 1
  | .nil => 1
  | .ptr d => uptoBulk d + 1
  | .slice elems spare => uptoBulkAll elems + uptoBulkAll spare + 1
  | .agg parts => uptoBulkAll parts + 1
  | .iface _ d => uptoBulk d + 1
  | .map entries => uptoBulkEntries entries + 1
  | .held _ => 1
def uptoBulkAll {H : Type} : List (DataW H) → Nat
  | [] => 0
  | d :: r => uptoBulk d + uptoBulkAll r
def uptoBulkEntries {H : Type} : List (Lit × DataW H) → Nat
  | [] => 0
  | x :: r => uptoBulkEntry x + uptoBulkEntries r
def uptoBulkEntry {H : Type} : Lit × DataW H → Nat
  | (.string bytes, d) => bytes.length + uptoBulk d + 1
  | (_, d) => uptoBulk d + 1
 end
def uptoSmall : (H : Type) → List (DataW H) → Bool := fun _ ds => decide (uptoBulkAll ds ≤ 1048576)
def OpenSpec.upto (s : _root_.Go.ChangeSpec) : _root_.Go.OpenSpec := { _root_.Go.OpenSpec.ofChange s with cond := some uptoSmall }

/-- 'laws.FnExactSeqDistance', WHERE WHAT IT READS IS OF BULK AT MOST 1048576: true; the input reads as it did. -/
def fnExactSeqDistanceUptoRow : OpenClaim := { program := "ytaaomljhhlkmlaa", sum := "40dd9cb3f4c36ee4e95f84c04c51c7e4cebceb6ed69a82c8229b0292ee9f5726", func := "loop.example/g00986/laws.FnExactSeqDistance", spec := "fnExactSeqDistance", apart := false, narrowed := true }
def FnExactSeqDistanceUptoSaid : Prop := fnExactSeqDistanceUptoRow.holds Try.pinned (OpenSpec.upto fnExactSeqDistanceSpec)

/-- 'laws.FnExactFieldOf', WHERE WHAT IT READS IS OF BULK AT MOST 1048576: true; the input reads as it did. -/
def fnExactFieldOfUptoRow : OpenClaim := { program := "ytaaomljhhlkmlaa", sum := "40dd9cb3f4c36ee4e95f84c04c51c7e4cebceb6ed69a82c8229b0292ee9f5726", func := "loop.example/g00986/laws.FnExactFieldOf", spec := "fnExactFieldOf", apart := false, narrowed := true }
def FnExactFieldOfUptoSaid : Prop := fnExactFieldOfUptoRow.holds Try.pinned (OpenSpec.upto fnExactFieldOfSpec)

/-- 'laws.FnExactIsOld', WHERE WHAT IT READS IS OF BULK AT MOST 1048576: true; the input reads as it did. -/
def fnExactIsOldUptoRow : OpenClaim := { program := "ytaaomljhhlkmlaa", sum := "40dd9cb3f4c36ee4e95f84c04c51c7e4cebceb6ed69a82c8229b0292ee9f5726", func := "loop.example/g00986/laws.FnExactIsOld", spec := "fnExactIsOld", apart := false, narrowed := true }
def FnExactIsOldUptoSaid : Prop := fnExactIsOldUptoRow.holds Try.pinned (OpenSpec.upto fnExactIsOldSpec)

/-- 'laws.FnExactWithField', WHERE WHAT IT READS IS OF BULK AT MOST 1048576: true; the input reads as it did. -/
def fnExactWithFieldUptoRow : OpenClaim := { program := "ytaaomljhhlkmlaa", sum := "40dd9cb3f4c36ee4e95f84c04c51c7e4cebceb6ed69a82c8229b0292ee9f5726", func := "loop.example/g00986/laws.FnExactWithField", spec := "fnExactWithField", apart := false, narrowed := true }
def FnExactWithFieldUptoSaid : Prop := fnExactWithFieldUptoRow.holds Try.pinned (OpenSpec.upto fnExactWithFieldSpec)

/-- 'laws.FnExactIsPower', WHERE WHAT IT READS IS OF BULK AT MOST 1048576: true; the input reads as it did. -/
def fnExactIsPowerUptoRow : OpenClaim := { program := "ytaaomljhhlkmlaa", sum := "40dd9cb3f4c36ee4e95f84c04c51c7e4cebceb6ed69a82c8229b0292ee9f5726", func := "loop.example/g00986/laws.FnExactIsPower", spec := "fnExactIsPower", apart := false, narrowed := true }
def FnExactIsPowerUptoSaid : Prop := fnExactIsPowerUptoRow.holds Try.pinned (OpenSpec.upto fnExactIsPowerSpec)

/-- 'laws.FnSequences', WHERE WHAT IT READS IS OF BULK AT MOST 1048576: true; the input reads as it did. -/
def fnSequencesUptoRow : OpenClaim := { program := "ytaaomljhhlkmlaa", sum := "40dd9cb3f4c36ee4e95f84c04c51c7e4cebceb6ed69a82c8229b0292ee9f5726", func := "loop.example/g00986/laws.FnSequences", spec := "fnSequences", apart := false, narrowed := true }
def FnSequencesUptoSaid : Prop := fnSequencesUptoRow.holds Try.pinned (OpenSpec.upto fnSequencesSpec)

/-- 'laws.FnClamped', WHERE WHAT IT READS IS OF BULK AT MOST 1048576: true; the input reads as it did. -/
def fnClampedUptoRow : OpenClaim := { program := "ytaaomljhhlkmlaa", sum := "40dd9cb3f4c36ee4e95f84c04c51c7e4cebceb6ed69a82c8229b0292ee9f5726", func := "loop.example/g00986/laws.FnClamped", spec := "fnClamped", apart := false, narrowed := true }
def FnClampedUptoSaid : Prop := fnClampedUptoRow.holds Try.pinned (OpenSpec.upto fnClampedSpec)

/-- 'laws.FnExactCountOnes', WHERE WHAT IT READS IS OF BULK AT MOST 1048576: true; the input reads as it did. -/
def fnExactCountOnesUptoRow : OpenClaim := { program := "ytaaomljhhlkmlaa", sum := "40dd9cb3f4c36ee4e95f84c04c51c7e4cebceb6ed69a82c8229b0292ee9f5726", func := "loop.example/g00986/laws.FnExactCountOnes", spec := "fnExactCountOnes", apart := false, narrowed := true }
def FnExactCountOnesUptoSaid : Prop := fnExactCountOnesUptoRow.holds Try.pinned (OpenSpec.upto fnExactCountOnesSpec)

/-- 'laws.FnExactRoundUp', WHERE WHAT IT READS IS OF BULK AT MOST 1048576: true; the input reads as it did. -/
def fnExactRoundUpUptoRow : OpenClaim := { program := "ytaaomljhhlkmlaa", sum := "40dd9cb3f4c36ee4e95f84c04c51c7e4cebceb6ed69a82c8229b0292ee9f5726", func := "loop.example/g00986/laws.FnExactRoundUp", spec := "fnExactRoundUp", apart := false, narrowed := true }
def FnExactRoundUpUptoSaid : Prop := fnExactRoundUpUptoRow.holds Try.pinned (OpenSpec.upto fnExactRoundUpSpec)

/-- 'laws.FnFields', WHERE WHAT IT READS IS OF BULK AT MOST 1048576: true; the input reads as it did. -/
def fnFieldsUptoRow : OpenClaim := { program := "ytaaomljhhlkmlaa", sum := "40dd9cb3f4c36ee4e95f84c04c51c7e4cebceb6ed69a82c8229b0292ee9f5726", func := "loop.example/g00986/laws.FnFields", spec := "fnFields", apart := false, narrowed := true }
def FnFieldsUptoSaid : Prop := fnFieldsUptoRow.holds Try.pinned (OpenSpec.upto fnFieldsSpec)

/-- 'laws.FnExactEncodeHex', WHERE WHAT IT READS IS OF BULK AT MOST 1048576: true; the input reads as it did. -/
def fnExactEncodeHexUptoRow : OpenClaim := { program := "ytaaomljhhlkmlaa", sum := "40dd9cb3f4c36ee4e95f84c04c51c7e4cebceb6ed69a82c8229b0292ee9f5726", func := "loop.example/g00986/laws.FnExactEncodeHex", spec := "fnExactEncodeHex", apart := false, narrowed := true }
def FnExactEncodeHexUptoSaid : Prop := fnExactEncodeHexUptoRow.holds Try.pinned (OpenSpec.upto fnExactEncodeHexSpec)

/-- 'laws.FnExactDecodeHex', WHERE WHAT IT READS IS OF BULK AT MOST 1048576: true; the input reads as it did. -/
def fnExactDecodeHexUptoRow : OpenClaim := { program := "ytaaomljhhlkmlaa", sum := "40dd9cb3f4c36ee4e95f84c04c51c7e4cebceb6ed69a82c8229b0292ee9f5726", func := "loop.example/g00986/laws.FnExactDecodeHex", spec := "fnExactDecodeHex", inPlace := ["internal/bytealg.IndexByteString"], apart := false, narrowed := true }
def FnExactDecodeHexUptoSaid : Prop := fnExactDecodeHexUptoRow.holds Try.pinned (OpenSpec.upto fnExactDecodeHexSpec)

end Rows
end Go.Proofs.Ytaaomljhhlkmlaa
