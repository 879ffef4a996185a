-- The kit's printed words, those theorems alone that this claim names (prune.py).
import Derived.Test.YtpokmbcfmaepcaaWInv
import Derived.Test.YtpokmbcfmaepcaaWFootNe
namespace Go.Proofs.YtpokmbcfmaepcaaW.PrintWords
open Go.RowKit
end Go.Proofs.YtpokmbcfmaepcaaW.PrintWords
namespace Go.Proofs.YtpokmbcfmaepcaaW.PrintLast
section
variable {ops : Array Oper} {a : Act} {o og : Oper} {g : Nat} {t : Tmp} {u : Bool}
end
end Go.Proofs.YtpokmbcfmaepcaaW.PrintLast
