-- The kit's printed words, those theorems alone that this claim names (prune.py).
import Derived.Test.YtmkjopglibgleaaWInv
import Derived.Test.YtmkjopglibgleaaWFootNe
namespace Go.Proofs.YtmkjopglibgleaaW.PrintWords
open Go.RowKit
end Go.Proofs.YtmkjopglibgleaaW.PrintWords
namespace Go.Proofs.YtmkjopglibgleaaW.PrintLast
section
variable {ops : Array Oper} {a : Act} {o og : Oper} {g : Nat} {t : Tmp} {u : Bool}
end
end Go.Proofs.YtmkjopglibgleaaW.PrintLast
