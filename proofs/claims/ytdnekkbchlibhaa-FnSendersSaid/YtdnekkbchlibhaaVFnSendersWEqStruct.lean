-- Cut by prunes.py, a program of this session, out of the words that print.sh lays.
import Derived.Test.YtdnekkbchlibhaaVFnSendersWWords
import Derived.Laws.StructEq
namespace Go.Proofs.YtdnekkbchlibhaaW.PrintWords
open Go.RowKit
section
variable {P : Program} {d : Nat} {xs ys : Array Value} {f : Field} {fs : List Field} {a b : Value} {r s : Bool} {w : World}
end
end Go.Proofs.YtdnekkbchlibhaaW.PrintWords
