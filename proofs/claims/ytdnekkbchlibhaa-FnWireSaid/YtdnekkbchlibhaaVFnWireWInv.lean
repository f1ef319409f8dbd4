-- Cut by prune.py, a program of this session, out of the words that print.sh lays.
import Derived.Test.YtdnekkbchlibhaaVFnWireWTab
namespace Go.Proofs.YtdnekkbchlibhaaW.PrintLast
section
variable {P : Program} {ops : Array Oper} {Q : Exit → Act → World → Prop} {md : Region.Mode} {T : Bool × List (List Nat × List Nat)} {B : List Nat} {O : List Nat} {b : Nat → Bool} {i j n : Nat}
end
end Go.Proofs.YtdnekkbchlibhaaW.PrintLast
