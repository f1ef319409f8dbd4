-- Written by xprint.py, a program of this session, over the kit's print (not a file of print.sh). Lean checks it.
import Derived.Test.YtnfkifcbemppjaaProg
import Derived.Below
import Derived.Deep.Draws
import Derived.Deep.AppendLies
import Derived.Maps.AppendAt
import Derived.OwnWalk
import Derived.Laws.BytesArg
import Derived.Laws.MakeOwn
import Derived.Laws.OwnMore
import Derived.Deep.OwnRows
import Derived.Tactics
import Derived.Lib.ConvBytes
import Derived.Laws.Slices
import Derived.WalkKit
import Derived.KernelRfl
import Derived.RowKit3
import Derived.Deep.LoopGhost
import Derived.Deep.QuietTactic
import Derived.BigQuiet
import Derived.WideLaws
import Derived.Deep.DeepCutAuto
import Derived.Deep.CutBlock
import Derived.Deep.RegionHeld3
import Derived.Laws.Rows
import Derived.Lib.AppendStr
import Derived.ArgAppend
import Derived.Laws.IdiomCopy
import Derived.OrdersHeld
import Derived.Laws.BitsLemmas
import Derived.RowKit
import Derived.Lib.SlBy
import Derived.Lib.LazyBuf
import Derived.Shelf.Abstract
import Derived.Test.YtnfkifcbemppjaaWWords
import Derived.Test.YtnfkifcbemppjaaWLast
import Derived.Test.YtnfkifcbemppjaaWTab
import Derived.Test.YtnfkifcbemppjaaWFour
import Derived.Test.YtnfkifcbemppjaaWQPut
import Derived.Test.YtnfkifcbemppjaaWApart
import Derived.Test.YtnfkifcbemppjaaWArr
import Derived.Test.YtnfkifcbemppjaaWZeros
import Derived.Test.YtnfkifcbemppjaaWFoot
import Derived.Test.YtnfkifcbemppjaaWKept
import Derived.Test.YtnfkifcbemppjaaWShare
import Derived.Test.YtnfkifcbemppjaaWN
import Derived.Test.YtnfkifcbemppjaaWFootNe
import Derived.Test.YtnfkifcbemppjaaWAt
import Derived.Test.YtnfkifcbemppjaaWEqStruct
import Derived.Test.YtnfkifcbemppjaaWRepsOne
import Derived.Test.YtnfkifcbemppjaaWInv
import Derived.Test.YtnfkifcbemppjaaWInvWords
import Derived.Test.YtnfkifcbemppjaaWGuard
import Derived.Test.YtnfkifcbemppjaaWNEv
import Derived.Test.YtnfkifcbemppjaaWMore
namespace Go.Proofs.Ytnfkifcbemppjaa.PFnExactKindName
open Go.RowKit Go.Proofs.YtnfkifcbemppjaaW.PrintWords Go.Proofs.YtnfkifcbemppjaaW.PrintLast Go.Proofs.YtnfkifcbemppjaaW.PrintMore
attribute [local go_sem] max2_int min2_int max_two min_two max_three min_three max_four min_four   -- for this text's walks alone
set_option linter.unusedVariables false
set_option linter.unusedSimpArgs false



def errW : Option Int → Value
  | none => .nilIface
  | some c => .iface 0 (.int .i64 c)
theorem errW_none : errW none = .nilIface := rfl
theorem errW_some (c : Int) : errW (some c) = .iface 0 (.int .i64 c) := rfl

theorem info9 : (Try.prog.info? 9).map (fun i => (i.zero, i.size, i.bytes)) = some (some (.string ⟨#[]⟩), 1, 16) := by kernel_rfl
-- the values' own types

end Go.Proofs.Ytnfkifcbemppjaa.PFnExactKindName
