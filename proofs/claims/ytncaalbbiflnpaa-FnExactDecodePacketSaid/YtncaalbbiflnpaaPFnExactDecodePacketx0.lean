-- Written by xprint.py, a program of this session, over the kit's print (not a file of print.sh). Lean checks it.
import Derived.Test.YtncaalbbiflnpaaProg
import Derived.Below
import Derived.Deep.Draws
import Derived.Deep.AppendLies
import Derived.Maps.AppendAt
import Derived.OwnWalk
import Derived.Laws.BytesArg
import Derived.Laws.MakeOwn
import Derived.Laws.OwnMore
import Derived.Deep.OwnRows
import Derived.Tactics
import Derived.Lib.ConvBytes
import Derived.Laws.Slices
import Derived.WalkKit
import Derived.KernelRfl
import Derived.RowKit3
import Derived.Deep.LoopGhost
import Derived.Deep.QuietTactic
import Derived.BigQuiet
import Derived.WideLaws
import Derived.Deep.DeepCutAuto
import Derived.Deep.CutBlock
import Derived.Deep.RegionHeld3
import Derived.Laws.Rows
import Derived.Lib.AppendStr
import Derived.ArgAppend
import Derived.Laws.IdiomCopy
import Derived.OrdersHeld
import Derived.Laws.BitsLemmas
import Derived.RowKit
import Derived.Lib.SlBy
import Derived.Lib.LazyBuf
import Derived.Shelf.Abstract
import Derived.Test.YtncaalbbiflnpaaVFnExactDecodePacketWWords
import Derived.Test.YtncaalbbiflnpaaVFnExactDecodePacketWLast
import Derived.Test.YtncaalbbiflnpaaVFnExactDecodePacketWTab
import Derived.Test.YtncaalbbiflnpaaVFnExactDecodePacketWFour
import Derived.Test.YtncaalbbiflnpaaVFnExactDecodePacketWQPut
import Derived.Test.YtncaalbbiflnpaaVFnExactDecodePacketWApart
import Derived.Test.YtncaalbbiflnpaaVFnExactDecodePacketWArr
import Derived.Test.YtncaalbbiflnpaaVFnExactDecodePacketWZeros
import Derived.Test.YtncaalbbiflnpaaVFnExactDecodePacketWFoot
import Derived.Test.YtncaalbbiflnpaaVFnExactDecodePacketWKept
import Derived.Test.YtncaalbbiflnpaaVFnExactDecodePacketWShare
import Derived.Test.YtncaalbbiflnpaaVFnExactDecodePacketWN
import Derived.Test.YtncaalbbiflnpaaVFnExactDecodePacketWFootNe
import Derived.Test.YtncaalbbiflnpaaVFnExactDecodePacketWAt
import Derived.Test.YtncaalbbiflnpaaVFnExactDecodePacketWEqStruct
import Derived.Test.YtncaalbbiflnpaaVFnExactDecodePacketWRepsOne
import Derived.Test.YtncaalbbiflnpaaVFnExactDecodePacketWInv
import Derived.Test.YtncaalbbiflnpaaVFnExactDecodePacketWInvWords
import Derived.Test.YtncaalbbiflnpaaVFnExactDecodePacketWGuard
import Derived.Test.YtncaalbbiflnpaaVFnExactDecodePacketWNEv
import Derived.Test.YtncaalbbiflnpaaVFnExactDecodePacketWMore
namespace Go.Proofs.Ytncaalbbiflnpaa.PFnExactDecodePacket
open Go.RowKit Go.Proofs.YtncaalbbiflnpaaW.PrintWords Go.Proofs.YtncaalbbiflnpaaW.PrintLast Go.Proofs.YtncaalbbiflnpaaW.PrintMore
attribute [local go_sem] max2_int min2_int max_two min_two max_three min_three max_four min_four   -- for this text's walks alone
set_option linter.unusedVariables false
set_option linter.unusedSimpArgs false



def errW : Option Int → Value
 | none => .nilIface
 | some c => .iface 0 (.int .i64 c)
theorem errW_none : errW none = .nilIface := rfl
theorem errW_some (c : Int) : errW (some c) = .iface 0 (.int .i64 c) := rfl

theorem info3 : (Try.prog.info? 3).map (fun i => (i.zero, i.size, i.bytes)) = some (some (.int .i64 0), 1, 8) := by kernel_rfl
-- the values' own types

end Go.Proofs.Ytncaalbbiflnpaa.PFnExactDecodePacket
