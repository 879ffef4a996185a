-- The kit's printed words and our lemmas, those alone that this claim uses (prune2.py).
import Derived.Test.YtcfgkpifloghlaaGreatDoorWWords
import Derived.Laws.StructEq
namespace Go.Proofs.YtcfgkpifloghlaaGreatDoorW.PrintWords
open Go.RowKit
section
variable {P : Program} {d : Nat} {xs ys : Array Value} {f : Field} {fs : List Field} {a b : Value} {r s : Bool} {w : World}
end
end Go.Proofs.YtcfgkpifloghlaaGreatDoorW.PrintWords
