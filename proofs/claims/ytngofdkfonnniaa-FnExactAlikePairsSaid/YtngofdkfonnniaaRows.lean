/-
  No cell of these rows narrows 'for every input' (looked for: loops, veiled, ifaces, maps, wideKeys, modest, calm, conditions, laid).
  DERIVED. THE GIVEN ROWS OF THIS SEAT. 12 by the template 'for every input the law returns true; each argument reads behind the call as it read before'; 0 by the template 'total and deterministic' (their statements: YtngofdkfonnniaaTotals.lean).
  GIVEN WITH THE SEED: the statements are not yours to turn. If you find one false, say at which input.
  Laid BY PROGRAM, IN A SANDBOX (cutbox-rows.mjs): the forced cells as the released guide's own fill.sh prints them over the translation ab8ae3a10b4768a3… (all of the seat's roots in one cut). By AI agents, Wed Nov 11 2026. No macro, syntax, notation, axiom, sorry.
-/
import Derived.Test.YtngofdkfonnniaaChecked
import GoSem.Claim
import GoSem.ClaimJoined
import GoSem.ClaimMapViews
import Derived.JoinedTies
import Derived.KernelRfl
namespace Go.Proofs.Ytngofdkfonnniaa
/- THE CELL 'sum', in the pinned program and in every row, IS THE sha256 OF THE DUMP (.gsa) THAT YtngofdkfonnniaaProg.lean LOADS. Nothing in Lean hashes anything: it is a label: what it is worth is what the hold of that sum in a sandbox is worth. -/
noncomputable def Try.pinned : Pinned := { name := "ytngofdkfonnniaa", sum := "ab8ae3a10b4768a3ff04077cab001e7d9707ef302b938b6efe54886ab589c9a5", checked := Try.checked }
namespace Rows
def none {H : Type} : Left H := { results := [], args := [] }

/-- 'laws.FnExactAreAges': WHATEVER THE INPUT: true; the input reads as it did. -/
def fnExactAreAgesSpec : ChangeSpec := { name := "fnExactAreAges", fn := fun _ => fun
  | [d] => { results := [.lit (.bool true)], args := [d] }
  | _ => none }
def fnExactAreAgesRow : OpenClaim := { program := "ytngofdkfonnniaa", sum := "ab8ae3a10b4768a3ff04077cab001e7d9707ef302b938b6efe54886ab589c9a5", func := "loop.example/g01369/laws.FnExactAreAges", spec := "fnExactAreAges", unfollowed := true, recurses := true, apart := false }
def FnExactAreAgesSaid : Prop := fnExactAreAgesRow.holds Try.pinned (OpenSpec.ofChange fnExactAreAgesSpec)

/-- ITS FALSE NEIGHBOUR: 'it returns false'. Refute it at one input. -/
def fnExactAreAgesWrong : ChangeSpec := { name := "fnExactAreAges", fn := fun _ => fun
  | [d] => { results := [.lit (.bool false)], args := [d] }
  | _ => none }
def FnExactAreAgesWrongFalsely : Prop := fnExactAreAgesRow.holds Try.pinned (OpenSpec.ofChange fnExactAreAgesWrong)

/-- 'laws.FnExactTimesOlder': WHATEVER THE INPUT: true; the input reads as it did. -/
def fnExactTimesOlderSpec : ChangeSpec := { name := "fnExactTimesOlder", fn := fun _ => fun
  | [d1, d2, d3] => { results := [.lit (.bool true)], args := [d1, d2, d3] }
  | _ => none }
def fnExactTimesOlderRow : OpenClaim := { program := "ytngofdkfonnniaa", sum := "ab8ae3a10b4768a3ff04077cab001e7d9707ef302b938b6efe54886ab589c9a5", func := "loop.example/g01369/laws.FnExactTimesOlder", spec := "fnExactTimesOlder", unfollowed := true, recurses := true, apart := false }
def FnExactTimesOlderSaid : Prop := fnExactTimesOlderRow.holds Try.pinned (OpenSpec.ofChange fnExactTimesOlderSpec)

/-- ITS FALSE NEIGHBOUR: 'it returns false'. Refute it at one input. -/
def fnExactTimesOlderWrong : ChangeSpec := { name := "fnExactTimesOlder", fn := fun _ => fun
  | [d1, d2, d3] => { results := [.lit (.bool false)], args := [d1, d2, d3] }
  | _ => none }
def FnExactTimesOlderWrongFalsely : Prop := fnExactTimesOlderRow.holds Try.pinned (OpenSpec.ofChange fnExactTimesOlderWrong)

/-- 'laws.FnExactBirthYears': WHATEVER THE INPUT: true; the input reads as it did. -/
def fnExactBirthYearsSpec : ChangeSpec := { name := "fnExactBirthYears", fn := fun _ => fun
  | [d1, d2] => { results := [.lit (.bool true)], args := [d1, d2] }
  | _ => none }
def fnExactBirthYearsRow : OpenClaim := { program := "ytngofdkfonnniaa", sum := "ab8ae3a10b4768a3ff04077cab001e7d9707ef302b938b6efe54886ab589c9a5", func := "loop.example/g01369/laws.FnExactBirthYears", spec := "fnExactBirthYears", unfollowed := true, recurses := true, apart := false }
def FnExactBirthYearsSaid : Prop := fnExactBirthYearsRow.holds Try.pinned (OpenSpec.ofChange fnExactBirthYearsSpec)

/-- ITS FALSE NEIGHBOUR: 'it returns false'. Refute it at one input. -/
def fnExactBirthYearsWrong : ChangeSpec := { name := "fnExactBirthYears", fn := fun _ => fun
  | [d1, d2] => { results := [.lit (.bool false)], args := [d1, d2] }
  | _ => none }
def FnExactBirthYearsWrongFalsely : Prop := fnExactBirthYearsRow.holds Try.pinned (OpenSpec.ofChange fnExactBirthYearsWrong)

/-- 'laws.FnExactAgesOfBirths': WHATEVER THE INPUT: true; the input reads as it did. -/
def fnExactAgesOfBirthsSpec : ChangeSpec := { name := "fnExactAgesOfBirths", fn := fun _ => fun
  | [d1, d2] => { results := [.lit (.bool true)], args := [d1, d2] }
  | _ => none }
def fnExactAgesOfBirthsRow : OpenClaim := { program := "ytngofdkfonnniaa", sum := "ab8ae3a10b4768a3ff04077cab001e7d9707ef302b938b6efe54886ab589c9a5", func := "loop.example/g01369/laws.FnExactAgesOfBirths", spec := "fnExactAgesOfBirths", unfollowed := true, recurses := true, apart := false }
def FnExactAgesOfBirthsSaid : Prop := fnExactAgesOfBirthsRow.holds Try.pinned (OpenSpec.ofChange fnExactAgesOfBirthsSpec)

/-- ITS FALSE NEIGHBOUR: 'it returns false'. Refute it at one input. -/
def fnExactAgesOfBirthsWrong : ChangeSpec := { name := "fnExactAgesOfBirths", fn := fun _ => fun
  | [d1, d2] => { results := [.lit (.bool false)], args := [d1, d2] }
  | _ => none }
def FnExactAgesOfBirthsWrongFalsely : Prop := fnExactAgesOfBirthsRow.holds Try.pinned (OpenSpec.ofChange fnExactAgesOfBirthsWrong)

/-- 'laws.FnExactAddAge': WHATEVER THE INPUT: true; the input reads as it did. -/
def fnExactAddAgeSpec : ChangeSpec := { name := "fnExactAddAge", fn := fun _ => fun
  | [d1, d2] => { results := [.lit (.bool true)], args := [d1, d2] }
  | _ => none }
def fnExactAddAgeRow : OpenClaim := { program := "ytngofdkfonnniaa", sum := "ab8ae3a10b4768a3ff04077cab001e7d9707ef302b938b6efe54886ab589c9a5", func := "loop.example/g01369/laws.FnExactAddAge", spec := "fnExactAddAge", unfollowed := true, recurses := true, apart := false }
def FnExactAddAgeSaid : Prop := fnExactAddAgeRow.holds Try.pinned (OpenSpec.ofChange fnExactAddAgeSpec)

/-- ITS FALSE NEIGHBOUR: 'it returns false'. Refute it at one input. -/
def fnExactAddAgeWrong : ChangeSpec := { name := "fnExactAddAge", fn := fun _ => fun
  | [d1, d2] => { results := [.lit (.bool false)], args := [d1, d2] }
  | _ => none }
def FnExactAddAgeWrongFalsely : Prop := fnExactAddAgeRow.holds Try.pinned (OpenSpec.ofChange fnExactAddAgeWrong)

/-- 'laws.FnExactMeanAge': WHATEVER THE INPUT: true; the input reads as it did. -/
def fnExactMeanAgeSpec : ChangeSpec := { name := "fnExactMeanAge", fn := fun _ => fun
  | [d] => { results := [.lit (.bool true)], args := [d] }
  | _ => none }
def fnExactMeanAgeRow : OpenClaim := { program := "ytngofdkfonnniaa", sum := "ab8ae3a10b4768a3ff04077cab001e7d9707ef302b938b6efe54886ab589c9a5", func := "loop.example/g01369/laws.FnExactMeanAge", spec := "fnExactMeanAge", unfollowed := true, recurses := true, apart := false }
def FnExactMeanAgeSaid : Prop := fnExactMeanAgeRow.holds Try.pinned (OpenSpec.ofChange fnExactMeanAgeSpec)

/-- ITS FALSE NEIGHBOUR: 'it returns false'. Refute it at one input. -/
def fnExactMeanAgeWrong : ChangeSpec := { name := "fnExactMeanAge", fn := fun _ => fun
  | [d] => { results := [.lit (.bool false)], args := [d] }
  | _ => none }
def FnExactMeanAgeWrongFalsely : Prop := fnExactMeanAgeRow.holds Try.pinned (OpenSpec.ofChange fnExactMeanAgeWrong)

/-- 'laws.FnExactYearsRange': WHATEVER THE INPUT: true; the input reads as it did. -/
def fnExactYearsRangeSpec : ChangeSpec := { name := "fnExactYearsRange", fn := fun _ => fun
  | [d] => { results := [.lit (.bool true)], args := [d] }
  | _ => none }
def fnExactYearsRangeRow : OpenClaim := { program := "ytngofdkfonnniaa", sum := "ab8ae3a10b4768a3ff04077cab001e7d9707ef302b938b6efe54886ab589c9a5", func := "loop.example/g01369/laws.FnExactYearsRange", spec := "fnExactYearsRange", unfollowed := true, recurses := true, apart := false }
def FnExactYearsRangeSaid : Prop := fnExactYearsRangeRow.holds Try.pinned (OpenSpec.ofChange fnExactYearsRangeSpec)

/-- ITS FALSE NEIGHBOUR: 'it returns false'. Refute it at one input. -/
def fnExactYearsRangeWrong : ChangeSpec := { name := "fnExactYearsRange", fn := fun _ => fun
  | [d] => { results := [.lit (.bool false)], args := [d] }
  | _ => none }
def FnExactYearsRangeWrongFalsely : Prop := fnExactYearsRangeRow.holds Try.pinned (OpenSpec.ofChange fnExactYearsRangeWrong)

/-- 'laws.FnExactDropAge': WHATEVER THE INPUT: true; the input reads as it did. -/
def fnExactDropAgeSpec : ChangeSpec := { name := "fnExactDropAge", fn := fun _ => fun
  | [d1, d2] => { results := [.lit (.bool true)], args := [d1, d2] }
  | _ => none }
def fnExactDropAgeRow : OpenClaim := { program := "ytngofdkfonnniaa", sum := "ab8ae3a10b4768a3ff04077cab001e7d9707ef302b938b6efe54886ab589c9a5", func := "loop.example/g01369/laws.FnExactDropAge", spec := "fnExactDropAge", unfollowed := true, recurses := true, apart := false }
def FnExactDropAgeSaid : Prop := fnExactDropAgeRow.holds Try.pinned (OpenSpec.ofChange fnExactDropAgeSpec)

/-- ITS FALSE NEIGHBOUR: 'it returns false'. Refute it at one input. -/
def fnExactDropAgeWrong : ChangeSpec := { name := "fnExactDropAge", fn := fun _ => fun
  | [d1, d2] => { results := [.lit (.bool false)], args := [d1, d2] }
  | _ => none }
def FnExactDropAgeWrongFalsely : Prop := fnExactDropAgeRow.holds Try.pinned (OpenSpec.ofChange fnExactDropAgeWrong)

/-- 'laws.FnExactAlikePairs': WHATEVER THE INPUT: true; the input reads as it did. -/
def fnExactAlikePairsSpec : ChangeSpec := { name := "fnExactAlikePairs", fn := fun _ => fun
  | [d] => { results := [.lit (.bool true)], args := [d] }
  | _ => none }
def fnExactAlikePairsRow : OpenClaim := { program := "ytngofdkfonnniaa", sum := "ab8ae3a10b4768a3ff04077cab001e7d9707ef302b938b6efe54886ab589c9a5", func := "loop.example/g01369/laws.FnExactAlikePairs", spec := "fnExactAlikePairs", unfollowed := true, recurses := true, apart := false }
def FnExactAlikePairsSaid : Prop := fnExactAlikePairsRow.holds Try.pinned (OpenSpec.ofChange fnExactAlikePairsSpec)

/-- ITS FALSE NEIGHBOUR: 'it returns false'. Refute it at one input. -/
def fnExactAlikePairsWrong : ChangeSpec := { name := "fnExactAlikePairs", fn := fun _ => fun
  | [d] => { results := [.lit (.bool false)], args := [d] }
  | _ => none }
def FnExactAlikePairsWrongFalsely : Prop := fnExactAlikePairsRow.holds Try.pinned (OpenSpec.ofChange fnExactAlikePairsWrong)

/-- 'laws.FnExactAgesIn': WHATEVER THE INPUT: true; the input reads as it did. -/
def fnExactAgesInSpec : ChangeSpec := { name := "fnExactAgesIn", fn := fun _ => fun
  | [d1, d2] => { results := [.lit (.bool true)], args := [d1, d2] }
  | _ => none }
def fnExactAgesInRow : OpenClaim := { program := "ytngofdkfonnniaa", sum := "ab8ae3a10b4768a3ff04077cab001e7d9707ef302b938b6efe54886ab589c9a5", func := "loop.example/g01369/laws.FnExactAgesIn", spec := "fnExactAgesIn", unfollowed := true, recurses := true, apart := false }
def FnExactAgesInSaid : Prop := fnExactAgesInRow.holds Try.pinned (OpenSpec.ofChange fnExactAgesInSpec)

/-- ITS FALSE NEIGHBOUR: 'it returns false'. Refute it at one input. -/
def fnExactAgesInWrong : ChangeSpec := { name := "fnExactAgesIn", fn := fun _ => fun
  | [d1, d2] => { results := [.lit (.bool false)], args := [d1, d2] }
  | _ => none }
def FnExactAgesInWrongFalsely : Prop := fnExactAgesInRow.holds Try.pinned (OpenSpec.ofChange fnExactAgesInWrong)

/-- 'laws.FnExactSumIn': WHATEVER THE INPUT: true; the input reads as it did. -/
def fnExactSumInSpec : ChangeSpec := { name := "fnExactSumIn", fn := fun _ => fun
  | [d1, d2] => { results := [.lit (.bool true)], args := [d1, d2] }
  | _ => none }
def fnExactSumInRow : OpenClaim := { program := "ytngofdkfonnniaa", sum := "ab8ae3a10b4768a3ff04077cab001e7d9707ef302b938b6efe54886ab589c9a5", func := "loop.example/g01369/laws.FnExactSumIn", spec := "fnExactSumIn", unfollowed := true, recurses := true, apart := false }
def FnExactSumInSaid : Prop := fnExactSumInRow.holds Try.pinned (OpenSpec.ofChange fnExactSumInSpec)

/-- ITS FALSE NEIGHBOUR: 'it returns false'. Refute it at one input. -/
def fnExactSumInWrong : ChangeSpec := { name := "fnExactSumIn", fn := fun _ => fun
  | [d1, d2] => { results := [.lit (.bool false)], args := [d1, d2] }
  | _ => none }
def FnExactSumInWrongFalsely : Prop := fnExactSumInRow.holds Try.pinned (OpenSpec.ofChange fnExactSumInWrong)

/-- 'laws.FnExactProductIn': WHATEVER THE INPUT: true; the input reads as it did. -/
def fnExactProductInSpec : ChangeSpec := { name := "fnExactProductIn", fn := fun _ => fun
  | [d1, d2] => { results := [.lit (.bool true)], args := [d1, d2] }
  | _ => none }
def fnExactProductInRow : OpenClaim := { program := "ytngofdkfonnniaa", sum := "ab8ae3a10b4768a3ff04077cab001e7d9707ef302b938b6efe54886ab589c9a5", func := "loop.example/g01369/laws.FnExactProductIn", spec := "fnExactProductIn", unfollowed := true, recurses := true, apart := false }
def FnExactProductInSaid : Prop := fnExactProductInRow.holds Try.pinned (OpenSpec.ofChange fnExactProductInSpec)

/-- ITS FALSE NEIGHBOUR: 'it returns false'. Refute it at one input. -/
def fnExactProductInWrong : ChangeSpec := { name := "fnExactProductIn", fn := fun _ => fun
  | [d1, d2] => { results := [.lit (.bool false)], args := [d1, d2] }
  | _ => none }
def FnExactProductInWrongFalsely : Prop := fnExactProductInRow.holds Try.pinned (OpenSpec.ofChange fnExactProductInWrong)

/- THE SECOND FORM. 'bulk': how many values and letters a reading holds, each counted each time it is reached (what is shared counts as often as it is met; a slice's spare places count too). A statement '..UptoSaid' is the law's where the arguments, and the package variables that the reading takes, are together of bulk at most 1048576: NARROWER than '..Said'. Prove '..Said' where nothing that the law and all that it calls make is longer than what came in: it says more and counts as full. Else prove '..UptoSaid'. A law counts once. -/
mutual
def uptoBulk {H : Type} : DataW H → Nat
  | .lit (.string bytes) => bytes.length + 1
  | .lit _ => 1
  | .nil => 1
  | .ptr d => uptoBulk d + 1
  | .slice elems spare => uptoBulkAll elems + uptoBulkAll spare + 1
  | .agg parts => uptoBulkAll parts + 1
  | .iface _ d => uptoBulk d + 1
  | .map entries => uptoBulkEntries entries + 1
  | .held _ => 1
def uptoBulkAll {H : Type} : List (DataW H) → Nat
  | [] => 0
  | d :: r => uptoBulk d + uptoBulkAll r
def uptoBulkEntries {H : Type} : List (Lit × DataW H) → Nat
  | [] => 0
  | x :: r => uptoBulkEntry x + uptoBulkEntries r
def uptoBulkEntry {H : Type} : Lit × DataW H → Nat
  | (.string bytes, d) => bytes.length + uptoBulk d + 1
  | (_, d) => uptoBulk d + 1
 end
def uptoSmall : (H : Type) → List (DataW H) → Bool := fun _ ds => decide (uptoBulkAll ds ≤ 1048576)
def OpenSpec.upto (s : _root_.Go.ChangeSpec) : _root_.Go.OpenSpec := { _root_.Go.OpenSpec.ofChange s with cond := some uptoSmall }

/-- 'laws.FnExactAreAges', WHERE WHAT IT READS IS OF BULK AT MOST 1048576: true; the input reads as it did. -/
def fnExactAreAgesUptoRow : OpenClaim := { program := "ytngofdkfonnniaa", sum := "ab8ae3a10b4768a3ff04077cab001e7d9707ef302b938b6efe54886ab589c9a5", func := "loop.example/g01369/laws.FnExactAreAges", spec := "fnExactAreAges", unfollowed := true, recurses := true, apart := false, narrowed := true }
def FnExactAreAgesUptoSaid : Prop := fnExactAreAgesUptoRow.holds Try.pinned (OpenSpec.upto fnExactAreAgesSpec)

/-- 'laws.FnExactTimesOlder', WHERE WHAT IT READS IS OF BULK AT MOST 1048576: true; the input reads as it did. -/
def fnExactTimesOlderUptoRow : OpenClaim := { program := "ytngofdkfonnniaa", sum := "ab8ae3a10b4768a3ff04077cab001e7d9707ef302b938b6efe54886ab589c9a5", func := "loop.example/g01369/laws.FnExactTimesOlder", spec := "fnExactTimesOlder", unfollowed := true, recurses := true, apart := false, narrowed := true }
def FnExactTimesOlderUptoSaid : Prop := fnExactTimesOlderUptoRow.holds Try.pinned (OpenSpec.upto fnExactTimesOlderSpec)

/-- 'laws.FnExactBirthYears', WHERE WHAT IT READS IS OF BULK AT MOST 1048576: true; the input reads as it did. -/
def fnExactBirthYearsUptoRow : OpenClaim := { program := "ytngofdkfonnniaa", sum := "ab8ae3a10b4768a3ff04077cab001e7d9707ef302b938b6efe54886ab589c9a5", func := "loop.example/g01369/laws.FnExactBirthYears", spec := "fnExactBirthYears", unfollowed := true, recurses := true, apart := false, narrowed := true }
def FnExactBirthYearsUptoSaid : Prop := fnExactBirthYearsUptoRow.holds Try.pinned (OpenSpec.upto fnExactBirthYearsSpec)

/-- 'laws.FnExactAgesOfBirths', WHERE WHAT IT READS IS OF BULK AT MOST 1048576: true; the input reads as it did. -/
def fnExactAgesOfBirthsUptoRow : OpenClaim := { program := "ytngofdkfonnniaa", sum := "ab8ae3a10b4768a3ff04077cab001e7d9707ef302b938b6efe54886ab589c9a5", func := "loop.example/g01369/laws.FnExactAgesOfBirths", spec := "fnExactAgesOfBirths", unfollowed := true, recurses := true, apart := false, narrowed := true }
def FnExactAgesOfBirthsUptoSaid : Prop := fnExactAgesOfBirthsUptoRow.holds Try.pinned (OpenSpec.upto fnExactAgesOfBirthsSpec)

/-- 'laws.FnExactAddAge', WHERE WHAT IT READS IS OF BULK AT MOST 1048576: true; the input reads as it did. -/
def fnExactAddAgeUptoRow : OpenClaim := { program := "ytngofdkfonnniaa", sum := "ab8ae3a10b4768a3ff04077cab001e7d9707ef302b938b6efe54886ab589c9a5", func := "loop.example/g01369/laws.FnExactAddAge", spec := "fnExactAddAge", unfollowed := true, recurses := true, apart := false, narrowed := true }
def FnExactAddAgeUptoSaid : Prop := fnExactAddAgeUptoRow.holds Try.pinned (OpenSpec.upto fnExactAddAgeSpec)

/-- 'laws.FnExactMeanAge', WHERE WHAT IT READS IS OF BULK AT MOST 1048576: true; the input reads as it did. -/
def fnExactMeanAgeUptoRow : OpenClaim := { program := "ytngofdkfonnniaa", sum := "ab8ae3a10b4768a3ff04077cab001e7d9707ef302b938b6efe54886ab589c9a5", func := "loop.example/g01369/laws.FnExactMeanAge", spec := "fnExactMeanAge", unfollowed := true, recurses := true, apart := false, narrowed := true }
def FnExactMeanAgeUptoSaid : Prop := fnExactMeanAgeUptoRow.holds Try.pinned (OpenSpec.upto fnExactMeanAgeSpec)

/-- 'laws.FnExactYearsRange', WHERE WHAT IT READS IS OF BULK AT MOST 1048576: true; the input reads as it did. -/
def fnExactYearsRangeUptoRow : OpenClaim := { program := "ytngofdkfonnniaa", sum := "ab8ae3a10b4768a3ff04077cab001e7d9707ef302b938b6efe54886ab589c9a5", func := "loop.example/g01369/laws.FnExactYearsRange", spec := "fnExactYearsRange", unfollowed := true, recurses := true, apart := false, narrowed := true }
def FnExactYearsRangeUptoSaid : Prop := fnExactYearsRangeUptoRow.holds Try.pinned (OpenSpec.upto fnExactYearsRangeSpec)

/-- 'laws.FnExactDropAge', WHERE WHAT IT READS IS OF BULK AT MOST 1048576: true; the input reads as it did. -/
def fnExactDropAgeUptoRow : OpenClaim := { program := "ytngofdkfonnniaa", sum := "ab8ae3a10b4768a3ff04077cab001e7d9707ef302b938b6efe54886ab589c9a5", func := "loop.example/g01369/laws.FnExactDropAge", spec := "fnExactDropAge", unfollowed := true, recurses := true, apart := false, narrowed := true }
def FnExactDropAgeUptoSaid : Prop := fnExactDropAgeUptoRow.holds Try.pinned (OpenSpec.upto fnExactDropAgeSpec)

/-- 'laws.FnExactAlikePairs', WHERE WHAT IT READS IS OF BULK AT MOST 1048576: true; the input reads as it did. -/
def fnExactAlikePairsUptoRow : OpenClaim := { program := "ytngofdkfonnniaa", sum := "ab8ae3a10b4768a3ff04077cab001e7d9707ef302b938b6efe54886ab589c9a5", func := "loop.example/g01369/laws.FnExactAlikePairs", spec := "fnExactAlikePairs", unfollowed := true, recurses := true, apart := false, narrowed := true }
def FnExactAlikePairsUptoSaid : Prop := fnExactAlikePairsUptoRow.holds Try.pinned (OpenSpec.upto fnExactAlikePairsSpec)

/-- 'laws.FnExactAgesIn', WHERE WHAT IT READS IS OF BULK AT MOST 1048576: true; the input reads as it did. -/
def fnExactAgesInUptoRow : OpenClaim := { program := "ytngofdkfonnniaa", sum := "ab8ae3a10b4768a3ff04077cab001e7d9707ef302b938b6efe54886ab589c9a5", func := "loop.example/g01369/laws.FnExactAgesIn", spec := "fnExactAgesIn", unfollowed := true, recurses := true, apart := false, narrowed := true }
def FnExactAgesInUptoSaid : Prop := fnExactAgesInUptoRow.holds Try.pinned (OpenSpec.upto fnExactAgesInSpec)

/-- 'laws.FnExactSumIn', WHERE WHAT IT READS IS OF BULK AT MOST 1048576: true; the input reads as it did. -/
def fnExactSumInUptoRow : OpenClaim := { program := "ytngofdkfonnniaa", sum := "ab8ae3a10b4768a3ff04077cab001e7d9707ef302b938b6efe54886ab589c9a5", func := "loop.example/g01369/laws.FnExactSumIn", spec := "fnExactSumIn", unfollowed := true, recurses := true, apart := false, narrowed := true }
def FnExactSumInUptoSaid : Prop := fnExactSumInUptoRow.holds Try.pinned (OpenSpec.upto fnExactSumInSpec)

/-- 'laws.FnExactProductIn', WHERE WHAT IT READS IS OF BULK AT MOST 1048576: true; the input reads as it did. -/
def fnExactProductInUptoRow : OpenClaim := { program := "ytngofdkfonnniaa", sum := "ab8ae3a10b4768a3ff04077cab001e7d9707ef302b938b6efe54886ab589c9a5", func := "loop.example/g01369/laws.FnExactProductIn", spec := "fnExactProductIn", unfollowed := true, recurses := true, apart := false, narrowed := true }
def FnExactProductInUptoSaid : Prop := fnExactProductInUptoRow.holds Try.pinned (OpenSpec.upto fnExactProductInSpec)

end Rows
end Go.Proofs.Ytngofdkfonnniaa
