/-
  No cell of these rows narrows 'for every input' (looked for: loops, veiled, ifaces, maps, wideKeys, modest, calm, conditions, laid).
  DERIVED. THE GIVEN ROWS OF THIS SEAT. 10 by the template 'for every input the law returns true; each argument reads behind the call as it read before'; 0 by the template 'total and deterministic' (their statements: YtbdgeknaddaekaaTotals.lean).
  GIVEN WITH THE SEED: the statements are not yours to turn. If you find one false, say at which input.
  Laid BY PROGRAM, IN A SANDBOX (cutbox-rows.mjs): the forced cells as the released guide's own fill.sh prints them over the translation 630b152ac8f24899… (all of the seat's roots in one cut). By AI agents, Wed Nov 11 2026. No macro, syntax, notation, axiom, sorry.
-/
import Derived.Test.YtbdgeknaddaekaaChecked
import GoSem.Claim
import GoSem.ClaimJoined
import GoSem.ClaimMapViews
import Derived.JoinedTies
import Derived.KernelRfl
namespace Go.Proofs.Ytbdgeknaddaekaa
/- THE CELL 'sum', in the pinned program and in every row, IS THE sha256 OF THE DUMP (.gsa) THAT YtbdgeknaddaekaaProg.lean LOADS. Nothing in Lean hashes anything: it is a label: what it is worth is what the hold of that sum in a sandbox is worth. -/
noncomputable def Try.pinned : Pinned := { name := "ytbdgeknaddaekaa", sum := "630b152ac8f248997e130ecbce6a355c2cdf83539760be2e840640352e09bb72", checked := Try.checked }
namespace Rows
def none {H : Type} : Left H := { results := [], args := [] }

/-- 'laws.FnExactYearsOfMultiple': WHATEVER THE INPUT: true; the input reads as it did. -/
def fnExactYearsOfMultipleSpec : ChangeSpec := { name := "fnExactYearsOfMultiple", fn := fun _ => fun
  | [d1, d2, d3, d4] => { results := [.lit (.bool true)], args := [d1, d2, d3, d4] }
  | _ => none }
def fnExactYearsOfMultipleRow : OpenClaim := { program := "ytbdgeknaddaekaa", sum := "630b152ac8f248997e130ecbce6a355c2cdf83539760be2e840640352e09bb72", func := "loop.example/g01369/laws.FnExactYearsOfMultiple", spec := "fnExactYearsOfMultiple", unfollowed := true, recurses := true, apart := false }
def FnExactYearsOfMultipleSaid : Prop := fnExactYearsOfMultipleRow.holds Try.pinned (OpenSpec.ofChange fnExactYearsOfMultipleSpec)

/-- ITS FALSE NEIGHBOUR: 'it returns false'. Refute it at one input. -/
def fnExactYearsOfMultipleWrong : ChangeSpec := { name := "fnExactYearsOfMultiple", fn := fun _ => fun
  | [d1, d2, d3, d4] => { results := [.lit (.bool false)], args := [d1, d2, d3, d4] }
  | _ => none }
def FnExactYearsOfMultipleWrongFalsely : Prop := fnExactYearsOfMultipleRow.holds Try.pinned (OpenSpec.ofChange fnExactYearsOfMultipleWrong)

/-- 'laws.FnExactYearsToMean': WHATEVER THE INPUT: true; the input reads as it did. -/
def fnExactYearsToMeanSpec : ChangeSpec := { name := "fnExactYearsToMean", fn := fun _ => fun
  | [d1, d2, d3] => { results := [.lit (.bool true)], args := [d1, d2, d3] }
  | _ => none }
def fnExactYearsToMeanRow : OpenClaim := { program := "ytbdgeknaddaekaa", sum := "630b152ac8f248997e130ecbce6a355c2cdf83539760be2e840640352e09bb72", func := "loop.example/g01369/laws.FnExactYearsToMean", spec := "fnExactYearsToMean", unfollowed := true, recurses := true, apart := false }
def FnExactYearsToMeanSaid : Prop := fnExactYearsToMeanRow.holds Try.pinned (OpenSpec.ofChange fnExactYearsToMeanSpec)

/-- ITS FALSE NEIGHBOUR: 'it returns false'. Refute it at one input. -/
def fnExactYearsToMeanWrong : ChangeSpec := { name := "fnExactYearsToMean", fn := fun _ => fun
  | [d1, d2, d3] => { results := [.lit (.bool false)], args := [d1, d2, d3] }
  | _ => none }
def FnExactYearsToMeanWrongFalsely : Prop := fnExactYearsToMeanRow.holds Try.pinned (OpenSpec.ofChange fnExactYearsToMeanWrong)

/-- 'laws.FnExactYearsToSum': WHATEVER THE INPUT: true; the input reads as it did. -/
def fnExactYearsToSumSpec : ChangeSpec := { name := "fnExactYearsToSum", fn := fun _ => fun
  | [d1, d2] => { results := [.lit (.bool true)], args := [d1, d2] }
  | _ => none }
def fnExactYearsToSumRow : OpenClaim := { program := "ytbdgeknaddaekaa", sum := "630b152ac8f248997e130ecbce6a355c2cdf83539760be2e840640352e09bb72", func := "loop.example/g01369/laws.FnExactYearsToSum", spec := "fnExactYearsToSum", unfollowed := true, recurses := true, apart := false }
def FnExactYearsToSumSaid : Prop := fnExactYearsToSumRow.holds Try.pinned (OpenSpec.ofChange fnExactYearsToSumSpec)

/-- ITS FALSE NEIGHBOUR: 'it returns false'. Refute it at one input. -/
def fnExactYearsToSumWrong : ChangeSpec := { name := "fnExactYearsToSum", fn := fun _ => fun
  | [d1, d2] => { results := [.lit (.bool false)], args := [d1, d2] }
  | _ => none }
def FnExactYearsToSumWrongFalsely : Prop := fnExactYearsToSumRow.holds Try.pinned (OpenSpec.ofChange fnExactYearsToSumWrong)

/-- 'laws.FnExactYearsAsSum': WHATEVER THE INPUT: true; the input reads as it did. -/
def fnExactYearsAsSumSpec : ChangeSpec := { name := "fnExactYearsAsSum", fn := fun _ => fun
  | [d1, d2] => { results := [.lit (.bool true)], args := [d1, d2] }
  | _ => none }
def fnExactYearsAsSumRow : OpenClaim := { program := "ytbdgeknaddaekaa", sum := "630b152ac8f248997e130ecbce6a355c2cdf83539760be2e840640352e09bb72", func := "loop.example/g01369/laws.FnExactYearsAsSum", spec := "fnExactYearsAsSum", unfollowed := true, recurses := true, apart := false }
def FnExactYearsAsSumSaid : Prop := fnExactYearsAsSumRow.holds Try.pinned (OpenSpec.ofChange fnExactYearsAsSumSpec)

/-- ITS FALSE NEIGHBOUR: 'it returns false'. Refute it at one input. -/
def fnExactYearsAsSumWrong : ChangeSpec := { name := "fnExactYearsAsSum", fn := fun _ => fun
  | [d1, d2] => { results := [.lit (.bool false)], args := [d1, d2] }
  | _ => none }
def FnExactYearsAsSumWrongFalsely : Prop := fnExactYearsAsSumRow.holds Try.pinned (OpenSpec.ofChange fnExactYearsAsSumWrong)

/-- 'laws.FnExactYearsToProduct': WHATEVER THE INPUT: true; the input reads as it did. -/
def fnExactYearsToProductSpec : ChangeSpec := { name := "fnExactYearsToProduct", fn := fun _ => fun
  | [d1, d2] => { results := [.lit (.bool true)], args := [d1, d2] }
  | _ => none }
def fnExactYearsToProductRow : OpenClaim := { program := "ytbdgeknaddaekaa", sum := "630b152ac8f248997e130ecbce6a355c2cdf83539760be2e840640352e09bb72", func := "loop.example/g01369/laws.FnExactYearsToProduct", spec := "fnExactYearsToProduct", unfollowed := true, recurses := true, apart := false }
def FnExactYearsToProductSaid : Prop := fnExactYearsToProductRow.holds Try.pinned (OpenSpec.ofChange fnExactYearsToProductSpec)

/-- ITS FALSE NEIGHBOUR: 'it returns false'. Refute it at one input. -/
def fnExactYearsToProductWrong : ChangeSpec := { name := "fnExactYearsToProduct", fn := fun _ => fun
  | [d1, d2] => { results := [.lit (.bool false)], args := [d1, d2] }
  | _ => none }
def FnExactYearsToProductWrongFalsely : Prop := fnExactYearsToProductRow.holds Try.pinned (OpenSpec.ofChange fnExactYearsToProductWrong)

/-- 'laws.FnExactYearsTurned': WHATEVER THE INPUT: true; the input reads as it did. -/
def fnExactYearsTurnedSpec : ChangeSpec := { name := "fnExactYearsTurned", fn := fun _ => fun
  | [d1, d2, d3] => { results := [.lit (.bool true)], args := [d1, d2, d3] }
  | _ => none }
def fnExactYearsTurnedRow : OpenClaim := { program := "ytbdgeknaddaekaa", sum := "630b152ac8f248997e130ecbce6a355c2cdf83539760be2e840640352e09bb72", func := "loop.example/g01369/laws.FnExactYearsTurned", spec := "fnExactYearsTurned", unfollowed := true, recurses := true, apart := false }
def FnExactYearsTurnedSaid : Prop := fnExactYearsTurnedRow.holds Try.pinned (OpenSpec.ofChange fnExactYearsTurnedSpec)

/-- ITS FALSE NEIGHBOUR: 'it returns false'. Refute it at one input. -/
def fnExactYearsTurnedWrong : ChangeSpec := { name := "fnExactYearsTurned", fn := fun _ => fun
  | [d1, d2, d3] => { results := [.lit (.bool false)], args := [d1, d2, d3] }
  | _ => none }
def FnExactYearsTurnedWrongFalsely : Prop := fnExactYearsTurnedRow.holds Try.pinned (OpenSpec.ofChange fnExactYearsTurnedWrong)

/-- 'laws.FnExactYearsAlikeSums': WHATEVER THE INPUT: true; the input reads as it did. -/
def fnExactYearsAlikeSumsSpec : ChangeSpec := { name := "fnExactYearsAlikeSums", fn := fun _ => fun
  | [d] => { results := [.lit (.bool true)], args := [d] }
  | _ => none }
def fnExactYearsAlikeSumsRow : OpenClaim := { program := "ytbdgeknaddaekaa", sum := "630b152ac8f248997e130ecbce6a355c2cdf83539760be2e840640352e09bb72", func := "loop.example/g01369/laws.FnExactYearsAlikeSums", spec := "fnExactYearsAlikeSums", unfollowed := true, recurses := true, apart := false }
def FnExactYearsAlikeSumsSaid : Prop := fnExactYearsAlikeSumsRow.holds Try.pinned (OpenSpec.ofChange fnExactYearsAlikeSumsSpec)

/-- ITS FALSE NEIGHBOUR: 'it returns false'. Refute it at one input. -/
def fnExactYearsAlikeSumsWrong : ChangeSpec := { name := "fnExactYearsAlikeSums", fn := fun _ => fun
  | [d] => { results := [.lit (.bool false)], args := [d] }
  | _ => none }
def FnExactYearsAlikeSumsWrongFalsely : Prop := fnExactYearsAlikeSumsRow.holds Try.pinned (OpenSpec.ofChange fnExactYearsAlikeSumsWrong)

/-- 'laws.FnExactAllMultiples': WHATEVER THE INPUT: true; the input reads as it did. -/
def fnExactAllMultiplesSpec : ChangeSpec := { name := "fnExactAllMultiples", fn := fun _ => fun
  | [d1, d2, d3] => { results := [.lit (.bool true)], args := [d1, d2, d3] }
  | _ => none }
def fnExactAllMultiplesRow : OpenClaim := { program := "ytbdgeknaddaekaa", sum := "630b152ac8f248997e130ecbce6a355c2cdf83539760be2e840640352e09bb72", func := "loop.example/g01369/laws.FnExactAllMultiples", spec := "fnExactAllMultiples", unfollowed := true, recurses := true, apart := false }
def FnExactAllMultiplesSaid : Prop := fnExactAllMultiplesRow.holds Try.pinned (OpenSpec.ofChange fnExactAllMultiplesSpec)

/-- ITS FALSE NEIGHBOUR: 'it returns false'. Refute it at one input. -/
def fnExactAllMultiplesWrong : ChangeSpec := { name := "fnExactAllMultiples", fn := fun _ => fun
  | [d1, d2, d3] => { results := [.lit (.bool false)], args := [d1, d2, d3] }
  | _ => none }
def FnExactAllMultiplesWrongFalsely : Prop := fnExactAllMultiplesRow.holds Try.pinned (OpenSpec.ofChange fnExactAllMultiplesWrong)

/-- 'laws.FnExactOrderOfAges': WHATEVER THE INPUT: true; the input reads as it did. -/
def fnExactOrderOfAgesSpec : ChangeSpec := { name := "fnExactOrderOfAges", fn := fun _ => fun
  | [d] => { results := [.lit (.bool true)], args := [d] }
  | _ => none }
def fnExactOrderOfAgesRow : OpenClaim := { program := "ytbdgeknaddaekaa", sum := "630b152ac8f248997e130ecbce6a355c2cdf83539760be2e840640352e09bb72", func := "loop.example/g01369/laws.FnExactOrderOfAges", spec := "fnExactOrderOfAges", unfollowed := true, recurses := true, apart := false }
def FnExactOrderOfAgesSaid : Prop := fnExactOrderOfAgesRow.holds Try.pinned (OpenSpec.ofChange fnExactOrderOfAgesSpec)

/-- ITS FALSE NEIGHBOUR: 'it returns false'. Refute it at one input. -/
def fnExactOrderOfAgesWrong : ChangeSpec := { name := "fnExactOrderOfAges", fn := fun _ => fun
  | [d] => { results := [.lit (.bool false)], args := [d] }
  | _ => none }
def FnExactOrderOfAgesWrongFalsely : Prop := fnExactOrderOfAgesRow.holds Try.pinned (OpenSpec.ofChange fnExactOrderOfAgesWrong)

/-- 'laws.FnExactGapsOfAges': WHATEVER THE INPUT: true; the input reads as it did. -/
def fnExactGapsOfAgesSpec : ChangeSpec := { name := "fnExactGapsOfAges", fn := fun _ => fun
  | [d] => { results := [.lit (.bool true)], args := [d] }
  | _ => none }
def fnExactGapsOfAgesRow : OpenClaim := { program := "ytbdgeknaddaekaa", sum := "630b152ac8f248997e130ecbce6a355c2cdf83539760be2e840640352e09bb72", func := "loop.example/g01369/laws.FnExactGapsOfAges", spec := "fnExactGapsOfAges", unfollowed := true, recurses := true, apart := false }
def FnExactGapsOfAgesSaid : Prop := fnExactGapsOfAgesRow.holds Try.pinned (OpenSpec.ofChange fnExactGapsOfAgesSpec)

/-- ITS FALSE NEIGHBOUR: 'it returns false'. Refute it at one input. -/
def fnExactGapsOfAgesWrong : ChangeSpec := { name := "fnExactGapsOfAges", fn := fun _ => fun
  | [d] => { results := [.lit (.bool false)], args := [d] }
  | _ => none }
def FnExactGapsOfAgesWrongFalsely : Prop := fnExactGapsOfAgesRow.holds Try.pinned (OpenSpec.ofChange fnExactGapsOfAgesWrong)

/- THE SECOND FORM. 'bulk': how many values and letters a reading holds, each counted each time it is reached (what is shared counts as often as it is met; a slice's spare places count too). A statement '..UptoSaid' is the law's where the arguments, and the package variables that the reading takes, are together of bulk at most 1048576: NARROWER than '..Said'. Prove '..Said' where nothing that the law and all that it calls make is longer than what came in: it says more and counts as full. Else prove '..UptoSaid'. A law counts once. -/
mutual
def uptoBulk {H : Type} : DataW H → Nat
  | .lit (.string bytes) => bytes.length + 1
  | .lit _ => 1
  | .nil => 1
  | .ptr d => uptoBulk d + 1
  | .slice elems spare => uptoBulkAll elems + uptoBulkAll spare + 1
  | .agg parts => uptoBulkAll parts + 1
  | .iface _ d => uptoBulk d + 1
  | .map entries => uptoBulkEntries entries + 1
  | .held _ => 1
def uptoBulkAll {H : Type} : List (DataW H) → Nat
  | [] => 0
  | d :: r => uptoBulk d + uptoBulkAll r
def uptoBulkEntries {H : Type} : List (Lit × DataW H) → Nat
  | [] => 0
  | x :: r => uptoBulkEntry x + uptoBulkEntries r
def uptoBulkEntry {H : Type} : Lit × DataW H → Nat
  | (.string bytes, d) => bytes.length + uptoBulk d + 1
  | (_, d) => uptoBulk d + 1
 end
def uptoSmall : (H : Type) → List (DataW H) → Bool := fun _ ds => decide (uptoBulkAll ds ≤ 1048576)
def OpenSpec.upto (s : _root_.Go.ChangeSpec) : _root_.Go.OpenSpec := { _root_.Go.OpenSpec.ofChange s with cond := some uptoSmall }

/-- 'laws.FnExactYearsOfMultiple', WHERE WHAT IT READS IS OF BULK AT MOST 1048576: true; the input reads as it did. -/
def fnExactYearsOfMultipleUptoRow : OpenClaim := { program := "ytbdgeknaddaekaa", sum := "630b152ac8f248997e130ecbce6a355c2cdf83539760be2e840640352e09bb72", func := "loop.example/g01369/laws.FnExactYearsOfMultiple", spec := "fnExactYearsOfMultiple", unfollowed := true, recurses := true, apart := false, narrowed := true }
def FnExactYearsOfMultipleUptoSaid : Prop := fnExactYearsOfMultipleUptoRow.holds Try.pinned (OpenSpec.upto fnExactYearsOfMultipleSpec)

/-- 'laws.FnExactYearsToMean', WHERE WHAT IT READS IS OF BULK AT MOST 1048576: true; the input reads as it did. -/
def fnExactYearsToMeanUptoRow : OpenClaim := { program := "ytbdgeknaddaekaa", sum := "630b152ac8f248997e130ecbce6a355c2cdf83539760be2e840640352e09bb72", func := "loop.example/g01369/laws.FnExactYearsToMean", spec := "fnExactYearsToMean", unfollowed := true, recurses := true, apart := false, narrowed := true }
def FnExactYearsToMeanUptoSaid : Prop := fnExactYearsToMeanUptoRow.holds Try.pinned (OpenSpec.upto fnExactYearsToMeanSpec)

/-- 'laws.FnExactYearsToSum', WHERE WHAT IT READS IS OF BULK AT MOST 1048576: true; the input reads as it did. -/
def fnExactYearsToSumUptoRow : OpenClaim := { program := "ytbdgeknaddaekaa", sum := "630b152ac8f248997e130ecbce6a355c2cdf83539760be2e840640352e09bb72", func := "loop.example/g01369/laws.FnExactYearsToSum", spec := "fnExactYearsToSum", unfollowed := true, recurses := true, apart := false, narrowed := true }
def FnExactYearsToSumUptoSaid : Prop := fnExactYearsToSumUptoRow.holds Try.pinned (OpenSpec.upto fnExactYearsToSumSpec)

/-- 'laws.FnExactYearsAsSum', WHERE WHAT IT READS IS OF BULK AT MOST 1048576: true; the input reads as it did. -/
def fnExactYearsAsSumUptoRow : OpenClaim := { program := "ytbdgeknaddaekaa", sum := "630b152ac8f248997e130ecbce6a355c2cdf83539760be2e840640352e09bb72", func := "loop.example/g01369/laws.FnExactYearsAsSum", spec := "fnExactYearsAsSum", unfollowed := true, recurses := true, apart := false, narrowed := true }
def FnExactYearsAsSumUptoSaid : Prop := fnExactYearsAsSumUptoRow.holds Try.pinned (OpenSpec.upto fnExactYearsAsSumSpec)

/-- 'laws.FnExactYearsToProduct', WHERE WHAT IT READS IS OF BULK AT MOST 1048576: true; the input reads as it did. -/
def fnExactYearsToProductUptoRow : OpenClaim := { program := "ytbdgeknaddaekaa", sum := "630b152ac8f248997e130ecbce6a355c2cdf83539760be2e840640352e09bb72", func := "loop.example/g01369/laws.FnExactYearsToProduct", spec := "fnExactYearsToProduct", unfollowed := true, recurses := true, apart := false, narrowed := true }
def FnExactYearsToProductUptoSaid : Prop := fnExactYearsToProductUptoRow.holds Try.pinned (OpenSpec.upto fnExactYearsToProductSpec)

/-- 'laws.FnExactYearsTurned', WHERE WHAT IT READS IS OF BULK AT MOST 1048576: true; the input reads as it did. -/
def fnExactYearsTurnedUptoRow : OpenClaim := { program := "ytbdgeknaddaekaa", sum := "630b152ac8f248997e130ecbce6a355c2cdf83539760be2e840640352e09bb72", func := "loop.example/g01369/laws.FnExactYearsTurned", spec := "fnExactYearsTurned", unfollowed := true, recurses := true, apart := false, narrowed := true }
def FnExactYearsTurnedUptoSaid : Prop := fnExactYearsTurnedUptoRow.holds Try.pinned (OpenSpec.upto fnExactYearsTurnedSpec)

/-- 'laws.FnExactYearsAlikeSums', WHERE WHAT IT READS IS OF BULK AT MOST 1048576: true; the input reads as it did. -/
def fnExactYearsAlikeSumsUptoRow : OpenClaim := { program := "ytbdgeknaddaekaa", sum := "630b152ac8f248997e130ecbce6a355c2cdf83539760be2e840640352e09bb72", func := "loop.example/g01369/laws.FnExactYearsAlikeSums", spec := "fnExactYearsAlikeSums", unfollowed := true, recurses := true, apart := false, narrowed := true }
def FnExactYearsAlikeSumsUptoSaid : Prop := fnExactYearsAlikeSumsUptoRow.holds Try.pinned (OpenSpec.upto fnExactYearsAlikeSumsSpec)

/-- 'laws.FnExactAllMultiples', WHERE WHAT IT READS IS OF BULK AT MOST 1048576: true; the input reads as it did. -/
def fnExactAllMultiplesUptoRow : OpenClaim := { program := "ytbdgeknaddaekaa", sum := "630b152ac8f248997e130ecbce6a355c2cdf83539760be2e840640352e09bb72", func := "loop.example/g01369/laws.FnExactAllMultiples", spec := "fnExactAllMultiples", unfollowed := true, recurses := true, apart := false, narrowed := true }
def FnExactAllMultiplesUptoSaid : Prop := fnExactAllMultiplesUptoRow.holds Try.pinned (OpenSpec.upto fnExactAllMultiplesSpec)

/-- 'laws.FnExactOrderOfAges', WHERE WHAT IT READS IS OF BULK AT MOST 1048576: true; the input reads as it did. -/
def fnExactOrderOfAgesUptoRow : OpenClaim := { program := "ytbdgeknaddaekaa", sum := "630b152ac8f248997e130ecbce6a355c2cdf83539760be2e840640352e09bb72", func := "loop.example/g01369/laws.FnExactOrderOfAges", spec := "fnExactOrderOfAges", unfollowed := true, recurses := true, apart := false, narrowed := true }
def FnExactOrderOfAgesUptoSaid : Prop := fnExactOrderOfAgesUptoRow.holds Try.pinned (OpenSpec.upto fnExactOrderOfAgesSpec)

/-- 'laws.FnExactGapsOfAges', WHERE WHAT IT READS IS OF BULK AT MOST 1048576: true; the input reads as it did. -/
def fnExactGapsOfAgesUptoRow : OpenClaim := { program := "ytbdgeknaddaekaa", sum := "630b152ac8f248997e130ecbce6a355c2cdf83539760be2e840640352e09bb72", func := "loop.example/g01369/laws.FnExactGapsOfAges", spec := "fnExactGapsOfAges", unfollowed := true, recurses := true, apart := false, narrowed := true }
def FnExactGapsOfAgesUptoSaid : Prop := fnExactGapsOfAgesUptoRow.holds Try.pinned (OpenSpec.upto fnExactGapsOfAgesSpec)

end Rows
end Go.Proofs.Ytbdgeknaddaekaa
