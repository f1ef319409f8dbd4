-- Written by xprint.py, a program of this session, over the kit's print (not a file of print.sh). Lean checks it.
import Derived.Test.YtncaalbbiflnpaaProg
import Derived.Below
import Derived.Deep.Draws
import Derived.Deep.AppendLies
import Derived.Maps.AppendAt
import Derived.OwnWalk
import Derived.Laws.BytesArg
import Derived.Laws.MakeOwn
import Derived.Laws.OwnMore
import Derived.Deep.OwnRows
import Derived.Tactics
import Derived.Lib.ConvBytes
import Derived.Laws.Slices
import Derived.WalkKit
import Derived.KernelRfl
import Derived.RowKit3
import Derived.Deep.LoopGhost
import Derived.Deep.QuietTactic
import Derived.BigQuiet
import Derived.WideLaws
import Derived.Deep.DeepCutAuto
import Derived.Deep.CutBlock
import Derived.Deep.RegionHeld3
import Derived.Laws.Rows
import Derived.Lib.AppendStr
import Derived.ArgAppend
import Derived.Laws.IdiomCopy
import Derived.OrdersHeld
import Derived.Laws.BitsLemmas
import Derived.RowKit
import Derived.Lib.SlBy
import Derived.Lib.LazyBuf
import Derived.Shelf.Abstract
import Derived.Test.YtncaalbbiflnpaaWWords
import Derived.Test.YtncaalbbiflnpaaWLast
import Derived.Test.YtncaalbbiflnpaaWTab
import Derived.Test.YtncaalbbiflnpaaWFour
import Derived.Test.YtncaalbbiflnpaaWQPut
import Derived.Test.YtncaalbbiflnpaaWApart
import Derived.Test.YtncaalbbiflnpaaWArr
import Derived.Test.YtncaalbbiflnpaaWZeros
import Derived.Test.YtncaalbbiflnpaaWFoot
import Derived.Test.YtncaalbbiflnpaaWKept
import Derived.Test.YtncaalbbiflnpaaWShare
import Derived.Test.YtncaalbbiflnpaaWN
import Derived.Test.YtncaalbbiflnpaaWFootNe
import Derived.Test.YtncaalbbiflnpaaWAt
import Derived.Test.YtncaalbbiflnpaaWEqStruct
import Derived.Test.YtncaalbbiflnpaaWRepsOne
import Derived.Test.YtncaalbbiflnpaaWInv
import Derived.Test.YtncaalbbiflnpaaWInvWords
import Derived.Test.YtncaalbbiflnpaaWGuard
import Derived.Test.YtncaalbbiflnpaaWNEv
import Derived.Test.YtncaalbbiflnpaaWMore
namespace Go.Proofs.Ytncaalbbiflnpaa.PFnExactEncodePacket
open Go.RowKit Go.Proofs.YtncaalbbiflnpaaW.PrintWords Go.Proofs.YtncaalbbiflnpaaW.PrintLast Go.Proofs.YtncaalbbiflnpaaW.PrintMore
attribute [local go_sem] max2_int min2_int max_two min_two max_three min_three max_four min_four   -- for this text's walks alone
set_option linter.unusedVariables false
set_option linter.unusedSimpArgs false



def errW : Option Int → Value
  | none => .nilIface
  | some c => .iface 0 (.int .i64 c)
theorem errW_none : errW none = .nilIface := rfl
theorem errW_some (c : Int) : errW (some c) = .iface 0 (.int .i64 c) := rfl

theorem info3 : (Try.prog.info? 3).map (fun i => (i.zero, i.size, i.bytes)) = some (some (.int .i64 0), 1, 8) := by kernel_rfl
-- the values' own types

end Go.Proofs.Ytncaalbbiflnpaa.PFnExactEncodePacket
