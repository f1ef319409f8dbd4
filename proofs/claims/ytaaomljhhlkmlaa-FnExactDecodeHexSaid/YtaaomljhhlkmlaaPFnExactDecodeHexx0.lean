-- Written by xprint.py, a program of this session, over the kit's print (not a file of print.sh). Lean checks it.
import Derived.Test.YtaaomljhhlkmlaaProg
import Derived.Below
import Derived.Deep.Draws
import Derived.Deep.AppendLies
import Derived.Maps.AppendAt
import Derived.OwnWalk
import Derived.Laws.BytesArg
import Derived.Laws.MakeOwn
import Derived.Laws.OwnMore
import Derived.Deep.OwnRows
import Derived.Tactics
import Derived.Lib.ConvBytes
import Derived.Laws.Slices
import Derived.WalkKit
import Derived.KernelRfl
import Derived.RowKit3
import Derived.Deep.LoopGhost
import Derived.Deep.QuietTactic
import Derived.BigQuiet
import Derived.WideLaws
import Derived.Deep.DeepCutAuto
import Derived.Deep.CutBlock
import Derived.Deep.RegionHeld3
import Derived.Laws.Rows
import Derived.Lib.AppendStr
import Derived.ArgAppend
import Derived.Laws.IdiomCopy
import Derived.OrdersHeld
import Derived.Laws.BitsLemmas
import Derived.RowKit
import Derived.Lib.SlBy
import Derived.Lib.LazyBuf
import Derived.Shelf.Abstract
import Derived.Lib.Bytealg
import Derived.Test.YtaaomljhhlkmlaaMake0
import Derived.Test.YtaaomljhhlkmlaaWWords
import Derived.Test.YtaaomljhhlkmlaaWLast
import Derived.Test.YtaaomljhhlkmlaaWTab
import Derived.Test.YtaaomljhhlkmlaaWFour
import Derived.Test.YtaaomljhhlkmlaaWQPut
import Derived.Test.YtaaomljhhlkmlaaWApart
import Derived.Test.YtaaomljhhlkmlaaWArr
import Derived.Test.YtaaomljhhlkmlaaWZeros
import Derived.Test.YtaaomljhhlkmlaaWFoot
import Derived.Test.YtaaomljhhlkmlaaWKept
import Derived.Test.YtaaomljhhlkmlaaWShare
import Derived.Test.YtaaomljhhlkmlaaWN
import Derived.Test.YtaaomljhhlkmlaaWFootNe
import Derived.Test.YtaaomljhhlkmlaaWAt
import Derived.Test.YtaaomljhhlkmlaaWEqStruct
import Derived.Test.YtaaomljhhlkmlaaWRepsOne
import Derived.Test.YtaaomljhhlkmlaaWInv
import Derived.Test.YtaaomljhhlkmlaaWInvWords
import Derived.Test.YtaaomljhhlkmlaaWGuard
import Derived.Test.YtaaomljhhlkmlaaWNEv
import Derived.Test.YtaaomljhhlkmlaaWMore
namespace Go.Proofs.Ytaaomljhhlkmlaa.PFnExactDecodeHex
open Go.RowKit Go.Proofs.YtaaomljhhlkmlaaW.PrintWords Go.Proofs.YtaaomljhhlkmlaaW.PrintLast Go.Proofs.YtaaomljhhlkmlaaW.PrintMore
attribute [local go_sem] max2_int min2_int max_two min_two max_three min_three max_four min_four   -- for this text's walks alone
set_option linter.unusedVariables false
set_option linter.unusedSimpArgs false



def errW : Option Int → Value
  | none => .nilIface
  | some c => .iface 0 (.int .i64 c)
theorem errW_none : errW none = .nilIface := rfl
theorem errW_some (c : Int) : errW (some c) = .iface 0 (.int .i64 c) := rfl

theorem info5 : (Try.prog.info? 5).map (fun i => (i.zero, i.size, i.bytes)) = some (some (.int .u8 0), 1, 1) := by kernel_rfl
-- the values' own types

end Go.Proofs.Ytaaomljhhlkmlaa.PFnExactDecodeHex
