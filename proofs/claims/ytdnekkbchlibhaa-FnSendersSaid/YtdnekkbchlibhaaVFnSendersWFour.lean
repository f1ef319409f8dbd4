-- Cut by prunes.py, a program of this session, out of the words that print.sh lays.
import Derived.Test.YtdnekkbchlibhaaVFnSendersWTab
namespace Go.Proofs.YtdnekkbchlibhaaW.PrintLast
section
variable {P : Program} {ops : Array Oper} {Q : Exit → Act → World → Prop} {md : Region.Mode} {S : World → Prop} {ds : List Nat} {T : Bool × List (List Nat × List Nat)}
end
end Go.Proofs.YtdnekkbchlibhaaW.PrintLast
