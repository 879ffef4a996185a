-- The kit's printed words and our lemmas, those alone that this claim uses (prune2.py).
import Derived.Test.YtcfgkpifloghlaaGreatDoorWInv
import Derived.Test.YtcfgkpifloghlaaGreatDoorWFootNe
namespace Go.Proofs.YtcfgkpifloghlaaGreatDoorW.PrintWords
open Go.RowKit
end Go.Proofs.YtcfgkpifloghlaaGreatDoorW.PrintWords
namespace Go.Proofs.YtcfgkpifloghlaaGreatDoorW.PrintLast
section
variable {ops : Array Oper} {a : Act} {o og : Oper} {g : Nat} {t : Tmp} {u : Bool}
end
end Go.Proofs.YtcfgkpifloghlaaGreatDoorW.PrintLast
