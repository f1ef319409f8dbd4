-- Cut by prunes.py, a program of this session, out of the words that print.sh lays.
import Derived.Test.YtdnekkbchlibhaaVFnSendersWN
namespace Go.Proofs.YtdnekkbchlibhaaW.PrintWords
open Go.RowKit
namespace Kd
section
variable {α : Type} {d : Kd α} {W : World} {g n : Nat} {S ok : Nat → Prop} {A : Option Addr} {ad : Addr} {xs : List α}
end
end Kd
end Go.Proofs.YtdnekkbchlibhaaW.PrintWords
