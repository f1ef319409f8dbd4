-- Written by xprint.py, a program of this session, over the kit's print (not a file of print.sh). Lean checks it.
import Derived.Test.YtdnekkbchlibhaaProg
import Derived.Below
import Derived.Deep.Draws
import Derived.Deep.AppendLies
import Derived.Maps.AppendAt
import Derived.OwnWalk
import Derived.Laws.BytesArg
import Derived.Laws.MakeOwn
import Derived.Laws.OwnMore
import Derived.Deep.OwnRows
import Derived.Tactics
import Derived.Lib.ConvBytes
import Derived.Laws.Slices
import Derived.WalkKit
import Derived.KernelRfl
import Derived.RowKit3
import Derived.Deep.LoopGhost
import Derived.Deep.QuietTactic
import Derived.BigQuiet
import Derived.WideLaws
import Derived.Deep.DeepCutAuto
import Derived.Deep.CutBlock
import Derived.Deep.RegionHeld3
import Derived.Laws.Rows
import Derived.Lib.AppendStr
import Derived.ArgAppend
import Derived.Laws.IdiomCopy
import Derived.OrdersHeld
import Derived.Laws.BitsLemmas
import Derived.RowKit
import Derived.Lib.SlBy
import Derived.Lib.LazyBuf
import Derived.Shelf.Abstract
import Derived.Lib.Bytealg
import Derived.Test.YtdnekkbchlibhaaWWords
import Derived.Test.YtdnekkbchlibhaaWLast
import Derived.Test.YtdnekkbchlibhaaWTab
import Derived.Test.YtdnekkbchlibhaaWFour
import Derived.Test.YtdnekkbchlibhaaWQPut
import Derived.Test.YtdnekkbchlibhaaWApart
import Derived.Test.YtdnekkbchlibhaaWArr
import Derived.Test.YtdnekkbchlibhaaWZeros
import Derived.Test.YtdnekkbchlibhaaWFoot
import Derived.Test.YtdnekkbchlibhaaWKept
import Derived.Test.YtdnekkbchlibhaaWShare
import Derived.Test.YtdnekkbchlibhaaWN
import Derived.Test.YtdnekkbchlibhaaWFootNe
import Derived.Test.YtdnekkbchlibhaaWAt
import Derived.Test.YtdnekkbchlibhaaWEqStruct
import Derived.Test.YtdnekkbchlibhaaWRepsOne
import Derived.Test.YtdnekkbchlibhaaWInv
import Derived.Test.YtdnekkbchlibhaaWInvWords
import Derived.Test.YtdnekkbchlibhaaWGuard
import Derived.Test.YtdnekkbchlibhaaWNEv
import Derived.Test.YtdnekkbchlibhaaWMore
namespace Go.Proofs.Ytdnekkbchlibhaa.PFnChecks
open Go.RowKit Go.Proofs.YtdnekkbchlibhaaW.PrintWords Go.Proofs.YtdnekkbchlibhaaW.PrintLast Go.Proofs.YtdnekkbchlibhaaW.PrintMore
attribute [local go_sem] max2_int min2_int max_two min_two max_three min_three max_four min_four   -- for this text's walks alone
set_option linter.unusedVariables false
set_option linter.unusedSimpArgs false



def errW : Option Int → Value
  | none => .nilIface
  | some c => .iface 0 (.int .i64 c)
theorem errW_none : errW none = .nilIface := rfl
theorem errW_some (c : Int) : errW (some c) = .iface 0 (.int .i64 c) := rfl

theorem info3 : (Try.prog.info? 3).map (fun i => (i.zero, i.size, i.bytes)) = some (some (.int .i64 0), 1, 8) := by kernel_rfl
-- the values' own types

end Go.Proofs.Ytdnekkbchlibhaa.PFnChecks
