-- Written by xprint.py, a program of this session, over the kit's print (not a file of print.sh). Lean checks it.
import Derived.Test.YtbdbogpglkbafaaDoorProg
import Derived.Below
import Derived.Deep.Draws
import Derived.Deep.AppendLies
import Derived.Maps.AppendAt
import Derived.OwnWalk
import Derived.Laws.BytesArg
import Derived.Laws.MakeOwn
import Derived.Laws.OwnMore
import Derived.Deep.OwnRows
import Derived.Tactics
import Derived.Lib.ConvBytes
import Derived.Laws.Slices
import Derived.WalkKit
import Derived.KernelRfl
import Derived.RowKit3
import Derived.Deep.LoopGhost
import Derived.Deep.QuietTactic
import Derived.BigQuiet
import Derived.WideLaws
import Derived.Deep.DeepCutAuto
import Derived.Deep.CutBlock
import Derived.Deep.RegionHeld3
import Derived.Laws.Rows
import Derived.Lib.AppendStr
import Derived.ArgAppend
import Derived.Laws.IdiomCopy
import Derived.OrdersHeld
import Derived.Laws.BitsLemmas
import Derived.RowKit
import Derived.Lib.SlBy
import Derived.Lib.LazyBuf
import Derived.Shelf.Abstract
import Derived.Lib.Bytealg
import Derived.Test.YtbdbogpglkbafaaDoorLaid
import Derived.Test.YtbdbogpglkbafaaDoorWWords
import Derived.Test.YtbdbogpglkbafaaDoorWLast
import Derived.Test.YtbdbogpglkbafaaDoorWTab
import Derived.Test.YtbdbogpglkbafaaDoorWFour
import Derived.Test.YtbdbogpglkbafaaDoorWQPut
import Derived.Test.YtbdbogpglkbafaaDoorWApart
import Derived.Test.YtbdbogpglkbafaaDoorWArr
import Derived.Test.YtbdbogpglkbafaaDoorWZeros
import Derived.Test.YtbdbogpglkbafaaDoorWFoot
import Derived.Test.YtbdbogpglkbafaaDoorWKept
import Derived.Test.YtbdbogpglkbafaaDoorWShare
import Derived.Test.YtbdbogpglkbafaaDoorWN
import Derived.Test.YtbdbogpglkbafaaDoorWFootNe
import Derived.Test.YtbdbogpglkbafaaDoorWAt
import Derived.Test.YtbdbogpglkbafaaDoorWEqStruct
import Derived.Test.YtbdbogpglkbafaaDoorWRepsOne
import Derived.Test.YtbdbogpglkbafaaDoorWInv
import Derived.Test.YtbdbogpglkbafaaDoorWInvWords
import Derived.Test.YtbdbogpglkbafaaDoorWGuard
import Derived.Test.YtbdbogpglkbafaaDoorWNEv
import Derived.Test.YtbdbogpglkbafaaDoorWMore
namespace Go.Proofs.YtbdbogpglkbafaaDoor.PFnFieldsAgain
open Go.RowKit Go.Proofs.YtbdbogpglkbafaaDoorW.PrintWords Go.Proofs.YtbdbogpglkbafaaDoorW.PrintLast Go.Proofs.YtbdbogpglkbafaaDoorW.PrintMore
attribute [local go_sem] max2_int min2_int max_two min_two max_three min_three max_four min_four   -- for this text's walks alone
set_option linter.unusedVariables false
set_option linter.unusedSimpArgs false



def errW : Option Int → Value
  | none => .nilIface
  | some c => .iface 0 (.int .i64 c)
theorem errW_none : errW none = .nilIface := rfl
theorem errW_some (c : Int) : errW (some c) = .iface 0 (.int .i64 c) := rfl

theorem info5 : (Tryd.prog.info? 5).map (fun i => (i.zero, i.size, i.bytes)) = some (some (.int .u8 0), 1, 1) := by kernel_rfl
theorem info9 : (Tryd.prog.info? 9).map (fun i => (i.zero, i.size, i.bytes)) = some (some (.string ⟨#[]⟩), 1, 16) := by kernel_rfl
-- the values' own types

end Go.Proofs.YtbdbogpglkbafaaDoor.PFnFieldsAgain
