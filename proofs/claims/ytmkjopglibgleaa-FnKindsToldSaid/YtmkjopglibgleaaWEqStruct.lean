-- The kit's printed words, those theorems alone that this claim names (prune.py).
import Derived.Test.YtmkjopglibgleaaWWords
import Derived.Laws.StructEq
/-! ### 53. '==' of structs as_ one Bool -/
namespace Go.Proofs.YtmkjopglibgleaaW.PrintWords
open Go.RowKit
section
variable {P : Program} {d : Nat} {xs ys : Array Value} {f : Field} {fs : List Field} {a b : Value} {r s : Bool} {w : World}
end
end Go.Proofs.YtmkjopglibgleaaW.PrintWords
