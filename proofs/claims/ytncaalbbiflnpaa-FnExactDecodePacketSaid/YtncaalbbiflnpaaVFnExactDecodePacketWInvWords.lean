-- Cut by prune.py, a program of this session, out of the words that print.sh lays.
import Derived.Test.YtncaalbbiflnpaaVFnExactDecodePacketWInv
import Derived.Test.YtncaalbbiflnpaaVFnExactDecodePacketWFootNe
namespace Go.Proofs.YtncaalbbiflnpaaW.PrintWords
open Go.RowKit
end Go.Proofs.YtncaalbbiflnpaaW.PrintWords
namespace Go.Proofs.YtncaalbbiflnpaaW.PrintLast
section
variable {ops : Array Oper} {a : Act} {o og : Oper} {g : Nat} {t : Tmp} {u : Bool}
end
end Go.Proofs.YtncaalbbiflnpaaW.PrintLast
