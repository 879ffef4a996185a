-- The kit's printed words and our lemmas, those alone that this claim uses (prune2.py).
import Derived.Test.YtcfgkpifloghlaaGreatDoorWTab
namespace Go.Proofs.YtcfgkpifloghlaaGreatDoorW.PrintLast
section
variable {P : Program} {ops : Array Oper} {Q : Exit → Act → World → Prop} {md : Region.Mode} {S : World → Prop} {ds : List Nat} {T : Bool × List (List Nat × List Nat)}
end
end Go.Proofs.YtcfgkpifloghlaaGreatDoorW.PrintLast
