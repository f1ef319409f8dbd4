-- Cut by prunes.py, a program of this session, out of the words that print.sh lays.
import Derived.Test.YtdnekkbchlibhaaVFnSendersWInv
import Derived.Test.YtdnekkbchlibhaaVFnSendersWFootNe
namespace Go.Proofs.YtdnekkbchlibhaaW.PrintWords
open Go.RowKit
end Go.Proofs.YtdnekkbchlibhaaW.PrintWords
namespace Go.Proofs.YtdnekkbchlibhaaW.PrintLast
section
variable {ops : Array Oper} {a : Act} {o og : Oper} {g : Nat} {t : Tmp} {u : Bool}
end
end Go.Proofs.YtdnekkbchlibhaaW.PrintLast
