/-
  No cell of these rows narrows 'for every input' (looked for: loops, veiled, ifaces, maps, wideKeys, modest, calm, conditions, laid).
  DERIVED. THE GIVEN ROWS OF THIS SEAT. 12 by the template 'for every input the law returns true; each argument reads behind the call as it read before'; 0 by the template 'total and deterministic' (their statements: YtglgikhmiijdcaaTotals.lean).
  GIVEN WITH THE SEED: the statements are not yours to turn. If you find one false, say at which input.
  Laid BY PROGRAM, IN A SANDBOX (cutbox-rows.mjs): the forced cells as the released guide's own fill.sh prints them over the translation 9282689490f9d3d1… (all of the seat's roots in one cut). By AI agents, Wed Nov 11 2026. No macro, syntax, notation, axiom, sorry.
-/
import Derived.Test.YtglgikhmiijdcaaChecked
import GoSem.Claim
import GoSem.ClaimJoined
import GoSem.ClaimMapViews
import Derived.JoinedTies
import Derived.KernelRfl
namespace Go.Proofs.Ytglgikhmiijdcaa
/- THE CELL 'sum', in the pinned program and in every row, IS THE sha256 OF THE DUMP (.gsa) THAT YtglgikhmiijdcaaProg.lean LOADS. Nothing in Lean hashes anything: it is a label: what it is worth is what the hold of that sum in a sandbox is worth. -/
noncomputable def Try.pinned : Pinned := { name := "ytglgikhmiijdcaa", sum := "9282689490f9d3d1fef6bb0edf1fd5fe485a852bbf7b30bf06261f8637ec97ae", checked := Try.checked }
namespace Rows
def none {H : Type} : Left H := { results := [], args := [] }

/-- 'laws.FnExactConstants': WHATEVER THE INPUT: true; the input reads as it did. -/
def fnExactConstantsSpec : ChangeSpec := { name := "fnExactConstants", fn := fun _ => fun
  | [] => { results := [.lit (.bool true)], args := [] }
  | _ => none }
def fnExactConstantsRow : OpenClaim := { program := "ytglgikhmiijdcaa", sum := "9282689490f9d3d1fef6bb0edf1fd5fe485a852bbf7b30bf06261f8637ec97ae", func := "loop.example/g01369/laws.FnExactConstants", spec := "fnExactConstants", apart := false }
def FnExactConstantsSaid : Prop := fnExactConstantsRow.holds Try.pinned (OpenSpec.ofChange fnExactConstantsSpec)

/-- ITS FALSE NEIGHBOUR: 'it returns false'. Refute it at one input. -/
def fnExactConstantsWrong : ChangeSpec := { name := "fnExactConstants", fn := fun _ => fun
  | [] => { results := [.lit (.bool false)], args := [] }
  | _ => none }
def FnExactConstantsWrongFalsely : Prop := fnExactConstantsRow.holds Try.pinned (OpenSpec.ofChange fnExactConstantsWrong)

/-- 'laws.FnExactIsDate': WHATEVER THE INPUT: true; the input reads as it did. -/
def fnExactIsDateSpec : ChangeSpec := { name := "fnExactIsDate", fn := fun _ => fun
  | [d] => { results := [.lit (.bool true)], args := [d] }
  | _ => none }
def fnExactIsDateRow : OpenClaim := { program := "ytglgikhmiijdcaa", sum := "9282689490f9d3d1fef6bb0edf1fd5fe485a852bbf7b30bf06261f8637ec97ae", func := "loop.example/g01369/laws.FnExactIsDate", spec := "fnExactIsDate", apart := false }
def FnExactIsDateSaid : Prop := fnExactIsDateRow.holds Try.pinned (OpenSpec.ofChange fnExactIsDateSpec)

/-- ITS FALSE NEIGHBOUR: 'it returns false'. Refute it at one input. -/
def fnExactIsDateWrong : ChangeSpec := { name := "fnExactIsDate", fn := fun _ => fun
  | [d] => { results := [.lit (.bool false)], args := [d] }
  | _ => none }
def FnExactIsDateWrongFalsely : Prop := fnExactIsDateRow.holds Try.pinned (OpenSpec.ofChange fnExactIsDateWrong)

/-- 'laws.FnExactLastDigitsYear': WHATEVER THE INPUT: true; the input reads as it did. -/
def fnExactLastDigitsYearSpec : ChangeSpec := { name := "fnExactLastDigitsYear", fn := fun _ => fun
  | [d] => { results := [.lit (.bool true)], args := [d] }
  | _ => none }
def fnExactLastDigitsYearRow : OpenClaim := { program := "ytglgikhmiijdcaa", sum := "9282689490f9d3d1fef6bb0edf1fd5fe485a852bbf7b30bf06261f8637ec97ae", func := "loop.example/g01369/laws.FnExactLastDigitsYear", spec := "fnExactLastDigitsYear", apart := false }
def FnExactLastDigitsYearSaid : Prop := fnExactLastDigitsYearRow.holds Try.pinned (OpenSpec.ofChange fnExactLastDigitsYearSpec)

/-- ITS FALSE NEIGHBOUR: 'it returns false'. Refute it at one input. -/
def fnExactLastDigitsYearWrong : ChangeSpec := { name := "fnExactLastDigitsYear", fn := fun _ => fun
  | [d] => { results := [.lit (.bool false)], args := [d] }
  | _ => none }
def FnExactLastDigitsYearWrongFalsely : Prop := fnExactLastDigitsYearRow.holds Try.pinned (OpenSpec.ofChange fnExactLastDigitsYearWrong)

/-- 'laws.FnExactTurnedAge': WHATEVER THE INPUT: true; the input reads as it did. -/
def fnExactTurnedAgeSpec : ChangeSpec := { name := "fnExactTurnedAge", fn := fun _ => fun
  | [d] => { results := [.lit (.bool true)], args := [d] }
  | _ => none }
def fnExactTurnedAgeRow : OpenClaim := { program := "ytglgikhmiijdcaa", sum := "9282689490f9d3d1fef6bb0edf1fd5fe485a852bbf7b30bf06261f8637ec97ae", func := "loop.example/g01369/laws.FnExactTurnedAge", spec := "fnExactTurnedAge", apart := false }
def FnExactTurnedAgeSaid : Prop := fnExactTurnedAgeRow.holds Try.pinned (OpenSpec.ofChange fnExactTurnedAgeSpec)

/-- ITS FALSE NEIGHBOUR: 'it returns false'. Refute it at one input. -/
def fnExactTurnedAgeWrong : ChangeSpec := { name := "fnExactTurnedAge", fn := fun _ => fun
  | [d] => { results := [.lit (.bool false)], args := [d] }
  | _ => none }
def FnExactTurnedAgeWrongFalsely : Prop := fnExactTurnedAgeRow.holds Try.pinned (OpenSpec.ofChange fnExactTurnedAgeWrong)

/-- 'laws.FnExactDigitSumOf': WHATEVER THE INPUT: true; the input reads as it did. -/
def fnExactDigitSumOfSpec : ChangeSpec := { name := "fnExactDigitSumOf", fn := fun _ => fun
  | [d] => { results := [.lit (.bool true)], args := [d] }
  | _ => none }
def fnExactDigitSumOfRow : OpenClaim := { program := "ytglgikhmiijdcaa", sum := "9282689490f9d3d1fef6bb0edf1fd5fe485a852bbf7b30bf06261f8637ec97ae", func := "loop.example/g01369/laws.FnExactDigitSumOf", spec := "fnExactDigitSumOf", apart := false }
def FnExactDigitSumOfSaid : Prop := fnExactDigitSumOfRow.holds Try.pinned (OpenSpec.ofChange fnExactDigitSumOfSpec)

/-- ITS FALSE NEIGHBOUR: 'it returns false'. Refute it at one input. -/
def fnExactDigitSumOfWrong : ChangeSpec := { name := "fnExactDigitSumOf", fn := fun _ => fun
  | [d] => { results := [.lit (.bool false)], args := [d] }
  | _ => none }
def FnExactDigitSumOfWrongFalsely : Prop := fnExactDigitSumOfRow.holds Try.pinned (OpenSpec.ofChange fnExactDigitSumOfWrong)

/-- 'laws.FnExactSquareYearOf': WHATEVER THE INPUT: true; the input reads as it did. -/
def fnExactSquareYearOfSpec : ChangeSpec := { name := "fnExactSquareYearOf", fn := fun _ => fun
  | [d] => { results := [.lit (.bool true)], args := [d] }
  | _ => none }
def fnExactSquareYearOfRow : OpenClaim := { program := "ytglgikhmiijdcaa", sum := "9282689490f9d3d1fef6bb0edf1fd5fe485a852bbf7b30bf06261f8637ec97ae", func := "loop.example/g01369/laws.FnExactSquareYearOf", spec := "fnExactSquareYearOf", apart := false }
def FnExactSquareYearOfSaid : Prop := fnExactSquareYearOfRow.holds Try.pinned (OpenSpec.ofChange fnExactSquareYearOfSpec)

/-- ITS FALSE NEIGHBOUR: 'it returns false'. Refute it at one input. -/
def fnExactSquareYearOfWrong : ChangeSpec := { name := "fnExactSquareYearOf", fn := fun _ => fun
  | [d] => { results := [.lit (.bool false)], args := [d] }
  | _ => none }
def FnExactSquareYearOfWrongFalsely : Prop := fnExactSquareYearOfRow.holds Try.pinned (OpenSpec.ofChange fnExactSquareYearOfWrong)

/-- 'laws.FnExactDaysApart': WHATEVER THE INPUT: true; the input reads as it did. -/
def fnExactDaysApartSpec : ChangeSpec := { name := "fnExactDaysApart", fn := fun _ => fun
  | [d1, d2] => { results := [.lit (.bool true)], args := [d1, d2] }
  | _ => none }
def fnExactDaysApartRow : OpenClaim := { program := "ytglgikhmiijdcaa", sum := "9282689490f9d3d1fef6bb0edf1fd5fe485a852bbf7b30bf06261f8637ec97ae", func := "loop.example/g01369/laws.FnExactDaysApart", spec := "fnExactDaysApart", apart := false }
def FnExactDaysApartSaid : Prop := fnExactDaysApartRow.holds Try.pinned (OpenSpec.ofChange fnExactDaysApartSpec)

/-- ITS FALSE NEIGHBOUR: 'it returns false'. Refute it at one input. -/
def fnExactDaysApartWrong : ChangeSpec := { name := "fnExactDaysApart", fn := fun _ => fun
  | [d1, d2] => { results := [.lit (.bool false)], args := [d1, d2] }
  | _ => none }
def FnExactDaysApartWrongFalsely : Prop := fnExactDaysApartRow.holds Try.pinned (OpenSpec.ofChange fnExactDaysApartWrong)

/-- 'laws.FnExactGreatestGap': WHATEVER THE INPUT: true; the input reads as it did. -/
def fnExactGreatestGapSpec : ChangeSpec := { name := "fnExactGreatestGap", fn := fun _ => fun
  | [d1, d2] => { results := [.lit (.bool true)], args := [d1, d2] }
  | _ => none }
def fnExactGreatestGapRow : OpenClaim := { program := "ytglgikhmiijdcaa", sum := "9282689490f9d3d1fef6bb0edf1fd5fe485a852bbf7b30bf06261f8637ec97ae", func := "loop.example/g01369/laws.FnExactGreatestGap", spec := "fnExactGreatestGap", apart := false }
def FnExactGreatestGapSaid : Prop := fnExactGreatestGapRow.holds Try.pinned (OpenSpec.ofChange fnExactGreatestGapSpec)

/-- ITS FALSE NEIGHBOUR: 'it returns false'. Refute it at one input. -/
def fnExactGreatestGapWrong : ChangeSpec := { name := "fnExactGreatestGap", fn := fun _ => fun
  | [d1, d2] => { results := [.lit (.bool false)], args := [d1, d2] }
  | _ => none }
def FnExactGreatestGapWrongFalsely : Prop := fnExactGreatestGapRow.holds Try.pinned (OpenSpec.ofChange fnExactGreatestGapWrong)

/-- 'laws.FnExactDividesYears': WHATEVER THE INPUT: true; the input reads as it did. -/
def fnExactDividesYearsSpec : ChangeSpec := { name := "fnExactDividesYears", fn := fun _ => fun
  | [d1, d2, d3] => { results := [.lit (.bool true)], args := [d1, d2, d3] }
  | _ => none }
def fnExactDividesYearsRow : OpenClaim := { program := "ytglgikhmiijdcaa", sum := "9282689490f9d3d1fef6bb0edf1fd5fe485a852bbf7b30bf06261f8637ec97ae", func := "loop.example/g01369/laws.FnExactDividesYears", spec := "fnExactDividesYears", apart := false }
def FnExactDividesYearsSaid : Prop := fnExactDividesYearsRow.holds Try.pinned (OpenSpec.ofChange fnExactDividesYearsSpec)

/-- ITS FALSE NEIGHBOUR: 'it returns false'. Refute it at one input. -/
def fnExactDividesYearsWrong : ChangeSpec := { name := "fnExactDividesYears", fn := fun _ => fun
  | [d1, d2, d3] => { results := [.lit (.bool false)], args := [d1, d2, d3] }
  | _ => none }
def FnExactDividesYearsWrongFalsely : Prop := fnExactDividesYearsRow.holds Try.pinned (OpenSpec.ofChange fnExactDividesYearsWrong)

/-- 'laws.FnExactTurnedBetween': WHATEVER THE INPUT: true; the input reads as it did. -/
def fnExactTurnedBetweenSpec : ChangeSpec := { name := "fnExactTurnedBetween", fn := fun _ => fun
  | [d] => { results := [.lit (.bool true)], args := [d] }
  | _ => none }
def fnExactTurnedBetweenRow : OpenClaim := { program := "ytglgikhmiijdcaa", sum := "9282689490f9d3d1fef6bb0edf1fd5fe485a852bbf7b30bf06261f8637ec97ae", func := "loop.example/g01369/laws.FnExactTurnedBetween", spec := "fnExactTurnedBetween", apart := false }
def FnExactTurnedBetweenSaid : Prop := fnExactTurnedBetweenRow.holds Try.pinned (OpenSpec.ofChange fnExactTurnedBetweenSpec)

/-- ITS FALSE NEIGHBOUR: 'it returns false'. Refute it at one input. -/
def fnExactTurnedBetweenWrong : ChangeSpec := { name := "fnExactTurnedBetween", fn := fun _ => fun
  | [d] => { results := [.lit (.bool false)], args := [d] }
  | _ => none }
def FnExactTurnedBetweenWrongFalsely : Prop := fnExactTurnedBetweenRow.holds Try.pinned (OpenSpec.ofChange fnExactTurnedBetweenWrong)

/-- 'laws.FnExactDigitYears': WHATEVER THE INPUT: true; the input reads as it did. -/
def fnExactDigitYearsSpec : ChangeSpec := { name := "fnExactDigitYears", fn := fun _ => fun
  | [d] => { results := [.lit (.bool true)], args := [d] }
  | _ => none }
def fnExactDigitYearsRow : OpenClaim := { program := "ytglgikhmiijdcaa", sum := "9282689490f9d3d1fef6bb0edf1fd5fe485a852bbf7b30bf06261f8637ec97ae", func := "loop.example/g01369/laws.FnExactDigitYears", spec := "fnExactDigitYears", apart := false }
def FnExactDigitYearsSaid : Prop := fnExactDigitYearsRow.holds Try.pinned (OpenSpec.ofChange fnExactDigitYearsSpec)

/-- ITS FALSE NEIGHBOUR: 'it returns false'. Refute it at one input. -/
def fnExactDigitYearsWrong : ChangeSpec := { name := "fnExactDigitYears", fn := fun _ => fun
  | [d] => { results := [.lit (.bool false)], args := [d] }
  | _ => none }
def FnExactDigitYearsWrongFalsely : Prop := fnExactDigitYearsRow.holds Try.pinned (OpenSpec.ofChange fnExactDigitYearsWrong)

/-- 'laws.FnExactSquareBirths': WHATEVER THE INPUT: true; the input reads as it did. -/
def fnExactSquareBirthsSpec : ChangeSpec := { name := "fnExactSquareBirths", fn := fun _ => fun
  | [d1, d2] => { results := [.lit (.bool true)], args := [d1, d2] }
  | _ => none }
def fnExactSquareBirthsRow : OpenClaim := { program := "ytglgikhmiijdcaa", sum := "9282689490f9d3d1fef6bb0edf1fd5fe485a852bbf7b30bf06261f8637ec97ae", func := "loop.example/g01369/laws.FnExactSquareBirths", spec := "fnExactSquareBirths", apart := false }
def FnExactSquareBirthsSaid : Prop := fnExactSquareBirthsRow.holds Try.pinned (OpenSpec.ofChange fnExactSquareBirthsSpec)

/-- ITS FALSE NEIGHBOUR: 'it returns false'. Refute it at one input. -/
def fnExactSquareBirthsWrong : ChangeSpec := { name := "fnExactSquareBirths", fn := fun _ => fun
  | [d1, d2] => { results := [.lit (.bool false)], args := [d1, d2] }
  | _ => none }
def FnExactSquareBirthsWrongFalsely : Prop := fnExactSquareBirthsRow.holds Try.pinned (OpenSpec.ofChange fnExactSquareBirthsWrong)

/- THE SECOND FORM. 'bulk': how many values and letters a reading holds, each counted each time it is reached (what is shared counts as often as it is met; a slice's spare places count too). A statement '..UptoSaid' is the law's where the arguments, and the package variables that the reading takes, are together of bulk at most 1048576: NARROWER than '..Said'. Prove '..Said' where nothing that the law and all that it calls make is longer than what came in: it says more and counts as full. Else prove '..UptoSaid'. A law counts once. -/
mutual
def uptoBulk {H : Type} : DataW H → Nat
  | .lit (.string bytes) => bytes.length + 1
  | .lit _ => 1
  | .nil => 1
  | .ptr d => uptoBulk d + 1
  | .slice elems spare => uptoBulkAll elems + uptoBulkAll spare + 1
  | .agg parts => uptoBulkAll parts + 1
  | .iface _ d => uptoBulk d + 1
  | .map entries => uptoBulkEntries entries + 1
  | .held _ => 1
def uptoBulkAll {H : Type} : List (DataW H) → Nat
  | [] => 0
  | d :: r => uptoBulk d + uptoBulkAll r
def uptoBulkEntries {H : Type} : List (Lit × DataW H) → Nat
  | [] => 0
  | x :: r => uptoBulkEntry x + uptoBulkEntries r
def uptoBulkEntry {H : Type} : Lit × DataW H → Nat
  | (.string bytes, d) => bytes.length + uptoBulk d + 1
  | (_, d) => uptoBulk d + 1
 end
def uptoSmall : (H : Type) → List (DataW H) → Bool := fun _ ds => decide (uptoBulkAll ds ≤ 1048576)
def OpenSpec.upto (s : _root_.Go.ChangeSpec) : _root_.Go.OpenSpec := { _root_.Go.OpenSpec.ofChange s with cond := some uptoSmall }

/-- 'laws.FnExactConstants', WHERE WHAT IT READS IS OF BULK AT MOST 1048576: true; the input reads as it did. -/
def fnExactConstantsUptoRow : OpenClaim := { program := "ytglgikhmiijdcaa", sum := "9282689490f9d3d1fef6bb0edf1fd5fe485a852bbf7b30bf06261f8637ec97ae", func := "loop.example/g01369/laws.FnExactConstants", spec := "fnExactConstants", apart := false, narrowed := true }
def FnExactConstantsUptoSaid : Prop := fnExactConstantsUptoRow.holds Try.pinned (OpenSpec.upto fnExactConstantsSpec)

/-- 'laws.FnExactIsDate', WHERE WHAT IT READS IS OF BULK AT MOST 1048576: true; the input reads as it did. -/
def fnExactIsDateUptoRow : OpenClaim := { program := "ytglgikhmiijdcaa", sum := "9282689490f9d3d1fef6bb0edf1fd5fe485a852bbf7b30bf06261f8637ec97ae", func := "loop.example/g01369/laws.FnExactIsDate", spec := "fnExactIsDate", apart := false, narrowed := true }
def FnExactIsDateUptoSaid : Prop := fnExactIsDateUptoRow.holds Try.pinned (OpenSpec.upto fnExactIsDateSpec)

/-- 'laws.FnExactLastDigitsYear', WHERE WHAT IT READS IS OF BULK AT MOST 1048576: true; the input reads as it did. -/
def fnExactLastDigitsYearUptoRow : OpenClaim := { program := "ytglgikhmiijdcaa", sum := "9282689490f9d3d1fef6bb0edf1fd5fe485a852bbf7b30bf06261f8637ec97ae", func := "loop.example/g01369/laws.FnExactLastDigitsYear", spec := "fnExactLastDigitsYear", apart := false, narrowed := true }
def FnExactLastDigitsYearUptoSaid : Prop := fnExactLastDigitsYearUptoRow.holds Try.pinned (OpenSpec.upto fnExactLastDigitsYearSpec)

/-- 'laws.FnExactTurnedAge', WHERE WHAT IT READS IS OF BULK AT MOST 1048576: true; the input reads as it did. -/
def fnExactTurnedAgeUptoRow : OpenClaim := { program := "ytglgikhmiijdcaa", sum := "9282689490f9d3d1fef6bb0edf1fd5fe485a852bbf7b30bf06261f8637ec97ae", func := "loop.example/g01369/laws.FnExactTurnedAge", spec := "fnExactTurnedAge", apart := false, narrowed := true }
def FnExactTurnedAgeUptoSaid : Prop := fnExactTurnedAgeUptoRow.holds Try.pinned (OpenSpec.upto fnExactTurnedAgeSpec)

/-- 'laws.FnExactDigitSumOf', WHERE WHAT IT READS IS OF BULK AT MOST 1048576: true; the input reads as it did. -/
def fnExactDigitSumOfUptoRow : OpenClaim := { program := "ytglgikhmiijdcaa", sum := "9282689490f9d3d1fef6bb0edf1fd5fe485a852bbf7b30bf06261f8637ec97ae", func := "loop.example/g01369/laws.FnExactDigitSumOf", spec := "fnExactDigitSumOf", apart := false, narrowed := true }
def FnExactDigitSumOfUptoSaid : Prop := fnExactDigitSumOfUptoRow.holds Try.pinned (OpenSpec.upto fnExactDigitSumOfSpec)

/-- 'laws.FnExactSquareYearOf', WHERE WHAT IT READS IS OF BULK AT MOST 1048576: true; the input reads as it did. -/
def fnExactSquareYearOfUptoRow : OpenClaim := { program := "ytglgikhmiijdcaa", sum := "9282689490f9d3d1fef6bb0edf1fd5fe485a852bbf7b30bf06261f8637ec97ae", func := "loop.example/g01369/laws.FnExactSquareYearOf", spec := "fnExactSquareYearOf", apart := false, narrowed := true }
def FnExactSquareYearOfUptoSaid : Prop := fnExactSquareYearOfUptoRow.holds Try.pinned (OpenSpec.upto fnExactSquareYearOfSpec)

/-- 'laws.FnExactDaysApart', WHERE WHAT IT READS IS OF BULK AT MOST 1048576: true; the input reads as it did. -/
def fnExactDaysApartUptoRow : OpenClaim := { program := "ytglgikhmiijdcaa", sum := "9282689490f9d3d1fef6bb0edf1fd5fe485a852bbf7b30bf06261f8637ec97ae", func := "loop.example/g01369/laws.FnExactDaysApart", spec := "fnExactDaysApart", apart := false, narrowed := true }
def FnExactDaysApartUptoSaid : Prop := fnExactDaysApartUptoRow.holds Try.pinned (OpenSpec.upto fnExactDaysApartSpec)

/-- 'laws.FnExactGreatestGap', WHERE WHAT IT READS IS OF BULK AT MOST 1048576: true; the input reads as it did. -/
def fnExactGreatestGapUptoRow : OpenClaim := { program := "ytglgikhmiijdcaa", sum := "9282689490f9d3d1fef6bb0edf1fd5fe485a852bbf7b30bf06261f8637ec97ae", func := "loop.example/g01369/laws.FnExactGreatestGap", spec := "fnExactGreatestGap", apart := false, narrowed := true }
def FnExactGreatestGapUptoSaid : Prop := fnExactGreatestGapUptoRow.holds Try.pinned (OpenSpec.upto fnExactGreatestGapSpec)

/-- 'laws.FnExactDividesYears', WHERE WHAT IT READS IS OF BULK AT MOST 1048576: true; the input reads as it did. -/
def fnExactDividesYearsUptoRow : OpenClaim := { program := "ytglgikhmiijdcaa", sum := "9282689490f9d3d1fef6bb0edf1fd5fe485a852bbf7b30bf06261f8637ec97ae", func := "loop.example/g01369/laws.FnExactDividesYears", spec := "fnExactDividesYears", apart := false, narrowed := true }
def FnExactDividesYearsUptoSaid : Prop := fnExactDividesYearsUptoRow.holds Try.pinned (OpenSpec.upto fnExactDividesYearsSpec)

/-- 'laws.FnExactTurnedBetween', WHERE WHAT IT READS IS OF BULK AT MOST 1048576: true; the input reads as it did. -/
def fnExactTurnedBetweenUptoRow : OpenClaim := { program := "ytglgikhmiijdcaa", sum := "9282689490f9d3d1fef6bb0edf1fd5fe485a852bbf7b30bf06261f8637ec97ae", func := "loop.example/g01369/laws.FnExactTurnedBetween", spec := "fnExactTurnedBetween", apart := false, narrowed := true }
def FnExactTurnedBetweenUptoSaid : Prop := fnExactTurnedBetweenUptoRow.holds Try.pinned (OpenSpec.upto fnExactTurnedBetweenSpec)

/-- 'laws.FnExactDigitYears', WHERE WHAT IT READS IS OF BULK AT MOST 1048576: true; the input reads as it did. -/
def fnExactDigitYearsUptoRow : OpenClaim := { program := "ytglgikhmiijdcaa", sum := "9282689490f9d3d1fef6bb0edf1fd5fe485a852bbf7b30bf06261f8637ec97ae", func := "loop.example/g01369/laws.FnExactDigitYears", spec := "fnExactDigitYears", apart := false, narrowed := true }
def FnExactDigitYearsUptoSaid : Prop := fnExactDigitYearsUptoRow.holds Try.pinned (OpenSpec.upto fnExactDigitYearsSpec)

/-- 'laws.FnExactSquareBirths', WHERE WHAT IT READS IS OF BULK AT MOST 1048576: true; the input reads as it did. -/
def fnExactSquareBirthsUptoRow : OpenClaim := { program := "ytglgikhmiijdcaa", sum := "9282689490f9d3d1fef6bb0edf1fd5fe485a852bbf7b30bf06261f8637ec97ae", func := "loop.example/g01369/laws.FnExactSquareBirths", spec := "fnExactSquareBirths", apart := false, narrowed := true }
def FnExactSquareBirthsUptoSaid : Prop := fnExactSquareBirthsUptoRow.holds Try.pinned (OpenSpec.upto fnExactSquareBirthsSpec)

end Rows
end Go.Proofs.Ytglgikhmiijdcaa
