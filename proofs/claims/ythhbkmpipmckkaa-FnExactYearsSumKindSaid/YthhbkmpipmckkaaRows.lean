/-
  No cell of these rows narrows 'for every input' (looked for: loops, veiled, ifaces, maps, wideKeys, modest, calm, conditions, laid).
  DERIVED. THE GIVEN ROWS OF THIS SEAT. 10 by the template 'for every input the law returns true; each argument reads behind the call as it read before'; 0 by the template 'total and deterministic' (their statements: YthhbkmpipmckkaaTotals.lean).
  GIVEN WITH THE SEED: the statements are not yours to turn. If you find one false, say at which input.
  Laid BY PROGRAM, IN A SANDBOX (cutbox-rows.mjs): the forced cells as the released guide's own fill.sh prints them over the translation a15ac629b757f9a0… (all of the seat's roots in one cut). By AI agents, Wed Nov 11 2026. No macro, syntax, notation, axiom, sorry.
-/
import Derived.Test.YthhbkmpipmckkaaChecked
import GoSem.Claim
import GoSem.ClaimJoined
import GoSem.ClaimMapViews
import Derived.JoinedTies
import Derived.KernelRfl
namespace Go.Proofs.Ythhbkmpipmckkaa
/- THE CELL 'sum', in the pinned program and in every row, IS THE sha256 OF THE DUMP (.gsa) THAT YthhbkmpipmckkaaProg.lean LOADS. Nothing in Lean hashes anything: it is a label: what it is worth is what the hold of that sum in a sandbox is worth. -/
noncomputable def Try.pinned : Pinned := { name := "ythhbkmpipmckkaa", sum := "a15ac629b757f9a05429652a6f6e4608979ddea79db5a27fb8f24ba859d13b3c", checked := Try.checked }
namespace Rows
def none {H : Type} : Left H := { results := [], args := [] }

/-- 'laws.FnExactKindsOf': WHATEVER THE INPUT: true; the input reads as it did. -/
def fnExactKindsOfSpec : ChangeSpec := { name := "fnExactKindsOf", fn := fun _ => fun
  | [d] => { results := [.lit (.bool true)], args := [d] }
  | _ => none }
def fnExactKindsOfRow : OpenClaim := { program := "ythhbkmpipmckkaa", sum := "a15ac629b757f9a05429652a6f6e4608979ddea79db5a27fb8f24ba859d13b3c", func := "loop.example/g01369/laws.FnExactKindsOf", spec := "fnExactKindsOf", unfollowed := true, recurses := true, apart := false }
def FnExactKindsOfSaid : Prop := fnExactKindsOfRow.holds Try.pinned (OpenSpec.ofChange fnExactKindsOfSpec)

/-- ITS FALSE NEIGHBOUR: 'it returns false'. Refute it at one input. -/
def fnExactKindsOfWrong : ChangeSpec := { name := "fnExactKindsOf", fn := fun _ => fun
  | [d] => { results := [.lit (.bool false)], args := [d] }
  | _ => none }
def FnExactKindsOfWrongFalsely : Prop := fnExactKindsOfRow.holds Try.pinned (OpenSpec.ofChange fnExactKindsOfWrong)

/-- 'laws.FnExactIsKind': WHATEVER THE INPUT: true; the input reads as it did. -/
def fnExactIsKindSpec : ChangeSpec := { name := "fnExactIsKind", fn := fun _ => fun
  | [d1, d2] => { results := [.lit (.bool true)], args := [d1, d2] }
  | _ => none }
def fnExactIsKindRow : OpenClaim := { program := "ythhbkmpipmckkaa", sum := "a15ac629b757f9a05429652a6f6e4608979ddea79db5a27fb8f24ba859d13b3c", func := "loop.example/g01369/laws.FnExactIsKind", spec := "fnExactIsKind", inPlace := ["internal/bytealg.IndexByteString", "internal/bytealg.IndexString"], unfollowed := true, recurses := true, named := ["internal/bytealg.MaxLen"], apart := false }
def FnExactIsKindSaid : Prop := fnExactIsKindRow.holds Try.pinned (OpenSpec.ofChange fnExactIsKindSpec)

/-- ITS FALSE NEIGHBOUR: 'it returns false'. Refute it at one input. -/
def fnExactIsKindWrong : ChangeSpec := { name := "fnExactIsKind", fn := fun _ => fun
  | [d1, d2] => { results := [.lit (.bool false)], args := [d1, d2] }
  | _ => none }
def FnExactIsKindWrongFalsely : Prop := fnExactIsKindRow.holds Try.pinned (OpenSpec.ofChange fnExactIsKindWrong)

/-- 'laws.FnExactLongestWithout': WHATEVER THE INPUT: true; the input reads as it did. -/
def fnExactLongestWithoutSpec : ChangeSpec := { name := "fnExactLongestWithout", fn := fun _ => fun
  | [d] => { results := [.lit (.bool true)], args := [d] }
  | _ => none }
def fnExactLongestWithoutRow : OpenClaim := { program := "ythhbkmpipmckkaa", sum := "a15ac629b757f9a05429652a6f6e4608979ddea79db5a27fb8f24ba859d13b3c", func := "loop.example/g01369/laws.FnExactLongestWithout", spec := "fnExactLongestWithout", inPlace := ["internal/bytealg.IndexByteString", "internal/bytealg.IndexString"], unfollowed := true, recurses := true, named := ["internal/bytealg.MaxLen"], apart := false }
def FnExactLongestWithoutSaid : Prop := fnExactLongestWithoutRow.holds Try.pinned (OpenSpec.ofChange fnExactLongestWithoutSpec)

/-- ITS FALSE NEIGHBOUR: 'it returns false'. Refute it at one input. -/
def fnExactLongestWithoutWrong : ChangeSpec := { name := "fnExactLongestWithout", fn := fun _ => fun
  | [d] => { results := [.lit (.bool false)], args := [d] }
  | _ => none }
def FnExactLongestWithoutWrongFalsely : Prop := fnExactLongestWithoutRow.holds Try.pinned (OpenSpec.ofChange fnExactLongestWithoutWrong)

/-- 'laws.FnExactNextOfKind': WHATEVER THE INPUT: true; the input reads as it did. -/
def fnExactNextOfKindSpec : ChangeSpec := { name := "fnExactNextOfKind", fn := fun _ => fun
  | [d1, d2] => { results := [.lit (.bool true)], args := [d1, d2] }
  | _ => none }
def fnExactNextOfKindRow : OpenClaim := { program := "ythhbkmpipmckkaa", sum := "a15ac629b757f9a05429652a6f6e4608979ddea79db5a27fb8f24ba859d13b3c", func := "loop.example/g01369/laws.FnExactNextOfKind", spec := "fnExactNextOfKind", inPlace := ["internal/bytealg.IndexByteString", "internal/bytealg.IndexString"], unfollowed := true, recurses := true, named := ["internal/bytealg.MaxLen"], apart := false }
def FnExactNextOfKindSaid : Prop := fnExactNextOfKindRow.holds Try.pinned (OpenSpec.ofChange fnExactNextOfKindSpec)

/-- ITS FALSE NEIGHBOUR: 'it returns false'. Refute it at one input. -/
def fnExactNextOfKindWrong : ChangeSpec := { name := "fnExactNextOfKind", fn := fun _ => fun
  | [d1, d2] => { results := [.lit (.bool false)], args := [d1, d2] }
  | _ => none }
def FnExactNextOfKindWrongFalsely : Prop := fnExactNextOfKindRow.holds Try.pinned (OpenSpec.ofChange fnExactNextOfKindWrong)

/-- 'laws.FnExactAgesOfKind': WHATEVER THE INPUT: true; the input reads as it did. -/
def fnExactAgesOfKindSpec : ChangeSpec := { name := "fnExactAgesOfKind", fn := fun _ => fun
  | [d] => { results := [.lit (.bool true)], args := [d] }
  | _ => none }
def fnExactAgesOfKindRow : OpenClaim := { program := "ythhbkmpipmckkaa", sum := "a15ac629b757f9a05429652a6f6e4608979ddea79db5a27fb8f24ba859d13b3c", func := "loop.example/g01369/laws.FnExactAgesOfKind", spec := "fnExactAgesOfKind", inPlace := ["internal/bytealg.IndexByteString", "internal/bytealg.IndexString"], unfollowed := true, recurses := true, named := ["internal/bytealg.MaxLen"], apart := false }
def FnExactAgesOfKindSaid : Prop := fnExactAgesOfKindRow.holds Try.pinned (OpenSpec.ofChange fnExactAgesOfKindSpec)

/-- ITS FALSE NEIGHBOUR: 'it returns false'. Refute it at one input. -/
def fnExactAgesOfKindWrong : ChangeSpec := { name := "fnExactAgesOfKind", fn := fun _ => fun
  | [d] => { results := [.lit (.bool false)], args := [d] }
  | _ => none }
def FnExactAgesOfKindWrongFalsely : Prop := fnExactAgesOfKindRow.holds Try.pinned (OpenSpec.ofChange fnExactAgesOfKindWrong)

/-- 'laws.FnExactWhoOfKind': WHATEVER THE INPUT: true; the input reads as it did. -/
def fnExactWhoOfKindSpec : ChangeSpec := { name := "fnExactWhoOfKind", fn := fun _ => fun
  | [d1, d2] => { results := [.lit (.bool true)], args := [d1, d2] }
  | _ => none }
def fnExactWhoOfKindRow : OpenClaim := { program := "ythhbkmpipmckkaa", sum := "a15ac629b757f9a05429652a6f6e4608979ddea79db5a27fb8f24ba859d13b3c", func := "loop.example/g01369/laws.FnExactWhoOfKind", spec := "fnExactWhoOfKind", inPlace := ["internal/bytealg.IndexByteString", "internal/bytealg.IndexString"], unfollowed := true, recurses := true, named := ["internal/bytealg.MaxLen"], apart := false }
def FnExactWhoOfKindSaid : Prop := fnExactWhoOfKindRow.holds Try.pinned (OpenSpec.ofChange fnExactWhoOfKindSpec)

/-- ITS FALSE NEIGHBOUR: 'it returns false'. Refute it at one input. -/
def fnExactWhoOfKindWrong : ChangeSpec := { name := "fnExactWhoOfKind", fn := fun _ => fun
  | [d1, d2] => { results := [.lit (.bool false)], args := [d1, d2] }
  | _ => none }
def FnExactWhoOfKindWrongFalsely : Prop := fnExactWhoOfKindRow.holds Try.pinned (OpenSpec.ofChange fnExactWhoOfKindWrong)

/-- 'laws.FnExactYearsMostKind': WHATEVER THE INPUT: true; the input reads as it did. -/
def fnExactYearsMostKindSpec : ChangeSpec := { name := "fnExactYearsMostKind", fn := fun _ => fun
  | [d1, d2] => { results := [.lit (.bool true)], args := [d1, d2] }
  | _ => none }
def fnExactYearsMostKindRow : OpenClaim := { program := "ythhbkmpipmckkaa", sum := "a15ac629b757f9a05429652a6f6e4608979ddea79db5a27fb8f24ba859d13b3c", func := "loop.example/g01369/laws.FnExactYearsMostKind", spec := "fnExactYearsMostKind", inPlace := ["internal/bytealg.IndexByteString", "internal/bytealg.IndexString"], unfollowed := true, recurses := true, named := ["internal/bytealg.MaxLen"], apart := false }
def FnExactYearsMostKindSaid : Prop := fnExactYearsMostKindRow.holds Try.pinned (OpenSpec.ofChange fnExactYearsMostKindSpec)

/-- ITS FALSE NEIGHBOUR: 'it returns false'. Refute it at one input. -/
def fnExactYearsMostKindWrong : ChangeSpec := { name := "fnExactYearsMostKind", fn := fun _ => fun
  | [d1, d2] => { results := [.lit (.bool false)], args := [d1, d2] }
  | _ => none }
def FnExactYearsMostKindWrongFalsely : Prop := fnExactYearsMostKindRow.holds Try.pinned (OpenSpec.ofChange fnExactYearsMostKindWrong)

/-- 'laws.FnExactCountOfKind': WHATEVER THE INPUT: true; the input reads as it did. -/
def fnExactCountOfKindSpec : ChangeSpec := { name := "fnExactCountOfKind", fn := fun _ => fun
  | [d1, d2, d3] => { results := [.lit (.bool true)], args := [d1, d2, d3] }
  | _ => none }
def fnExactCountOfKindRow : OpenClaim := { program := "ythhbkmpipmckkaa", sum := "a15ac629b757f9a05429652a6f6e4608979ddea79db5a27fb8f24ba859d13b3c", func := "loop.example/g01369/laws.FnExactCountOfKind", spec := "fnExactCountOfKind", inPlace := ["internal/bytealg.IndexByteString", "internal/bytealg.IndexString"], unfollowed := true, recurses := true, named := ["internal/bytealg.MaxLen"], apart := false }
def FnExactCountOfKindSaid : Prop := fnExactCountOfKindRow.holds Try.pinned (OpenSpec.ofChange fnExactCountOfKindSpec)

/-- ITS FALSE NEIGHBOUR: 'it returns false'. Refute it at one input. -/
def fnExactCountOfKindWrong : ChangeSpec := { name := "fnExactCountOfKind", fn := fun _ => fun
  | [d1, d2, d3] => { results := [.lit (.bool false)], args := [d1, d2, d3] }
  | _ => none }
def FnExactCountOfKindWrongFalsely : Prop := fnExactCountOfKindRow.holds Try.pinned (OpenSpec.ofChange fnExactCountOfKindWrong)

/-- 'laws.FnExactYearsSumKind': WHATEVER THE INPUT: true; the input reads as it did. -/
def fnExactYearsSumKindSpec : ChangeSpec := { name := "fnExactYearsSumKind", fn := fun _ => fun
  | [d1, d2] => { results := [.lit (.bool true)], args := [d1, d2] }
  | _ => none }
def fnExactYearsSumKindRow : OpenClaim := { program := "ythhbkmpipmckkaa", sum := "a15ac629b757f9a05429652a6f6e4608979ddea79db5a27fb8f24ba859d13b3c", func := "loop.example/g01369/laws.FnExactYearsSumKind", spec := "fnExactYearsSumKind", inPlace := ["internal/bytealg.IndexByteString", "internal/bytealg.IndexString"], unfollowed := true, recurses := true, named := ["internal/bytealg.MaxLen"], apart := false }
def FnExactYearsSumKindSaid : Prop := fnExactYearsSumKindRow.holds Try.pinned (OpenSpec.ofChange fnExactYearsSumKindSpec)

/-- ITS FALSE NEIGHBOUR: 'it returns false'. Refute it at one input. -/
def fnExactYearsSumKindWrong : ChangeSpec := { name := "fnExactYearsSumKind", fn := fun _ => fun
  | [d1, d2] => { results := [.lit (.bool false)], args := [d1, d2] }
  | _ => none }
def FnExactYearsSumKindWrongFalsely : Prop := fnExactYearsSumKindRow.holds Try.pinned (OpenSpec.ofChange fnExactYearsSumKindWrong)

/-- 'laws.FnExactYearsAllKind': WHATEVER THE INPUT: true; the input reads as it did. -/
def fnExactYearsAllKindSpec : ChangeSpec := { name := "fnExactYearsAllKind", fn := fun _ => fun
  | [d1, d2] => { results := [.lit (.bool true)], args := [d1, d2] }
  | _ => none }
def fnExactYearsAllKindRow : OpenClaim := { program := "ythhbkmpipmckkaa", sum := "a15ac629b757f9a05429652a6f6e4608979ddea79db5a27fb8f24ba859d13b3c", func := "loop.example/g01369/laws.FnExactYearsAllKind", spec := "fnExactYearsAllKind", inPlace := ["internal/bytealg.IndexByteString", "internal/bytealg.IndexString"], unfollowed := true, recurses := true, named := ["internal/bytealg.MaxLen"], apart := false }
def FnExactYearsAllKindSaid : Prop := fnExactYearsAllKindRow.holds Try.pinned (OpenSpec.ofChange fnExactYearsAllKindSpec)

/-- ITS FALSE NEIGHBOUR: 'it returns false'. Refute it at one input. -/
def fnExactYearsAllKindWrong : ChangeSpec := { name := "fnExactYearsAllKind", fn := fun _ => fun
  | [d1, d2] => { results := [.lit (.bool false)], args := [d1, d2] }
  | _ => none }
def FnExactYearsAllKindWrongFalsely : Prop := fnExactYearsAllKindRow.holds Try.pinned (OpenSpec.ofChange fnExactYearsAllKindWrong)

/- THE SECOND FORM. 'bulk': how many values and letters a reading holds, each counted each time it is reached (what is shared counts as often as it is met; a slice's spare places count too). A statement '..UptoSaid' is the law's where the arguments, and the package variables that the reading takes, are together of bulk at most 1048576: NARROWER than '..Said'. Prove '..Said' where nothing that the law and all that it calls make is longer than what came in: it says more and counts as full. Else prove '..UptoSaid'. A law counts once. -/
mutual
def uptoBulk {H : Type} : DataW H → Nat
  | .lit (.string bytes) => bytes.length + 1
  | .lit _ => 1
  | .nil => 1
  | .ptr d => uptoBulk d + 1
  | .slice elems spare => uptoBulkAll elems + uptoBulkAll spare + 1
  | .agg parts => uptoBulkAll parts + 1
  | .iface _ d => uptoBulk d + 1
  | .map entries => uptoBulkEntries entries + 1
  | .held _ => 1
def uptoBulkAll {H : Type} : List (DataW H) → Nat
  | [] => 0
  | d :: r => uptoBulk d + uptoBulkAll r
def uptoBulkEntries {H : Type} : List (Lit × DataW H) → Nat
  | [] => 0
  | x :: r => uptoBulkEntry x + uptoBulkEntries r
def uptoBulkEntry {H : Type} : Lit × DataW H → Nat
  | (.string bytes, d) => bytes.length + uptoBulk d + 1
  | (_, d) => uptoBulk d + 1
 end
def uptoSmall : (H : Type) → List (DataW H) → Bool := fun _ ds => decide (uptoBulkAll ds ≤ 1048576)
def OpenSpec.upto (s : _root_.Go.ChangeSpec) : _root_.Go.OpenSpec := { _root_.Go.OpenSpec.ofChange s with cond := some uptoSmall }

/-- 'laws.FnExactKindsOf', WHERE WHAT IT READS IS OF BULK AT MOST 1048576: true; the input reads as it did. -/
def fnExactKindsOfUptoRow : OpenClaim := { program := "ythhbkmpipmckkaa", sum := "a15ac629b757f9a05429652a6f6e4608979ddea79db5a27fb8f24ba859d13b3c", func := "loop.example/g01369/laws.FnExactKindsOf", spec := "fnExactKindsOf", unfollowed := true, recurses := true, apart := false, narrowed := true }
def FnExactKindsOfUptoSaid : Prop := fnExactKindsOfUptoRow.holds Try.pinned (OpenSpec.upto fnExactKindsOfSpec)

/-- 'laws.FnExactIsKind', WHERE WHAT IT READS IS OF BULK AT MOST 1048576: true; the input reads as it did. -/
def fnExactIsKindUptoRow : OpenClaim := { program := "ythhbkmpipmckkaa", sum := "a15ac629b757f9a05429652a6f6e4608979ddea79db5a27fb8f24ba859d13b3c", func := "loop.example/g01369/laws.FnExactIsKind", spec := "fnExactIsKind", inPlace := ["internal/bytealg.IndexByteString", "internal/bytealg.IndexString"], unfollowed := true, recurses := true, named := ["internal/bytealg.MaxLen"], apart := false, narrowed := true }
def FnExactIsKindUptoSaid : Prop := fnExactIsKindUptoRow.holds Try.pinned (OpenSpec.upto fnExactIsKindSpec)

/-- 'laws.FnExactLongestWithout', WHERE WHAT IT READS IS OF BULK AT MOST 1048576: true; the input reads as it did. -/
def fnExactLongestWithoutUptoRow : OpenClaim := { program := "ythhbkmpipmckkaa", sum := "a15ac629b757f9a05429652a6f6e4608979ddea79db5a27fb8f24ba859d13b3c", func := "loop.example/g01369/laws.FnExactLongestWithout", spec := "fnExactLongestWithout", inPlace := ["internal/bytealg.IndexByteString", "internal/bytealg.IndexString"], unfollowed := true, recurses := true, named := ["internal/bytealg.MaxLen"], apart := false, narrowed := true }
def FnExactLongestWithoutUptoSaid : Prop := fnExactLongestWithoutUptoRow.holds Try.pinned (OpenSpec.upto fnExactLongestWithoutSpec)

/-- 'laws.FnExactNextOfKind', WHERE WHAT IT READS IS OF BULK AT MOST 1048576: true; the input reads as it did. -/
def fnExactNextOfKindUptoRow : OpenClaim := { program := "ythhbkmpipmckkaa", sum := "a15ac629b757f9a05429652a6f6e4608979ddea79db5a27fb8f24ba859d13b3c", func := "loop.example/g01369/laws.FnExactNextOfKind", spec := "fnExactNextOfKind", inPlace := ["internal/bytealg.IndexByteString", "internal/bytealg.IndexString"], unfollowed := true, recurses := true, named := ["internal/bytealg.MaxLen"], apart := false, narrowed := true }
def FnExactNextOfKindUptoSaid : Prop := fnExactNextOfKindUptoRow.holds Try.pinned (OpenSpec.upto fnExactNextOfKindSpec)

/-- 'laws.FnExactAgesOfKind', WHERE WHAT IT READS IS OF BULK AT MOST 1048576: true; the input reads as it did. -/
def fnExactAgesOfKindUptoRow : OpenClaim := { program := "ythhbkmpipmckkaa", sum := "a15ac629b757f9a05429652a6f6e4608979ddea79db5a27fb8f24ba859d13b3c", func := "loop.example/g01369/laws.FnExactAgesOfKind", spec := "fnExactAgesOfKind", inPlace := ["internal/bytealg.IndexByteString", "internal/bytealg.IndexString"], unfollowed := true, recurses := true, named := ["internal/bytealg.MaxLen"], apart := false, narrowed := true }
def FnExactAgesOfKindUptoSaid : Prop := fnExactAgesOfKindUptoRow.holds Try.pinned (OpenSpec.upto fnExactAgesOfKindSpec)

/-- 'laws.FnExactWhoOfKind', WHERE WHAT IT READS IS OF BULK AT MOST 1048576: true; the input reads as it did. -/
def fnExactWhoOfKindUptoRow : OpenClaim := { program := "ythhbkmpipmckkaa", sum := "a15ac629b757f9a05429652a6f6e4608979ddea79db5a27fb8f24ba859d13b3c", func := "loop.example/g01369/laws.FnExactWhoOfKind", spec := "fnExactWhoOfKind", inPlace := ["internal/bytealg.IndexByteString", "internal/bytealg.IndexString"], unfollowed := true, recurses := true, named := ["internal/bytealg.MaxLen"], apart := false, narrowed := true }
def FnExactWhoOfKindUptoSaid : Prop := fnExactWhoOfKindUptoRow.holds Try.pinned (OpenSpec.upto fnExactWhoOfKindSpec)

/-- 'laws.FnExactYearsMostKind', WHERE WHAT IT READS IS OF BULK AT MOST 1048576: true; the input reads as it did. -/
def fnExactYearsMostKindUptoRow : OpenClaim := { program := "ythhbkmpipmckkaa", sum := "a15ac629b757f9a05429652a6f6e4608979ddea79db5a27fb8f24ba859d13b3c", func := "loop.example/g01369/laws.FnExactYearsMostKind", spec := "fnExactYearsMostKind", inPlace := ["internal/bytealg.IndexByteString", "internal/bytealg.IndexString"], unfollowed := true, recurses := true, named := ["internal/bytealg.MaxLen"], apart := false, narrowed := true }
def FnExactYearsMostKindUptoSaid : Prop := fnExactYearsMostKindUptoRow.holds Try.pinned (OpenSpec.upto fnExactYearsMostKindSpec)

/-- 'laws.FnExactCountOfKind', WHERE WHAT IT READS IS OF BULK AT MOST 1048576: true; the input reads as it did. -/
def fnExactCountOfKindUptoRow : OpenClaim := { program := "ythhbkmpipmckkaa", sum := "a15ac629b757f9a05429652a6f6e4608979ddea79db5a27fb8f24ba859d13b3c", func := "loop.example/g01369/laws.FnExactCountOfKind", spec := "fnExactCountOfKind", inPlace := ["internal/bytealg.IndexByteString", "internal/bytealg.IndexString"], unfollowed := true, recurses := true, named := ["internal/bytealg.MaxLen"], apart := false, narrowed := true }
def FnExactCountOfKindUptoSaid : Prop := fnExactCountOfKindUptoRow.holds Try.pinned (OpenSpec.upto fnExactCountOfKindSpec)

/-- 'laws.FnExactYearsSumKind', WHERE WHAT IT READS IS OF BULK AT MOST 1048576: true; the input reads as it did. -/
def fnExactYearsSumKindUptoRow : OpenClaim := { program := "ythhbkmpipmckkaa", sum := "a15ac629b757f9a05429652a6f6e4608979ddea79db5a27fb8f24ba859d13b3c", func := "loop.example/g01369/laws.FnExactYearsSumKind", spec := "fnExactYearsSumKind", inPlace := ["internal/bytealg.IndexByteString", "internal/bytealg.IndexString"], unfollowed := true, recurses := true, named := ["internal/bytealg.MaxLen"], apart := false, narrowed := true }
def FnExactYearsSumKindUptoSaid : Prop := fnExactYearsSumKindUptoRow.holds Try.pinned (OpenSpec.upto fnExactYearsSumKindSpec)

/-- 'laws.FnExactYearsAllKind', WHERE WHAT IT READS IS OF BULK AT MOST 1048576: true; the input reads as it did. -/
def fnExactYearsAllKindUptoRow : OpenClaim := { program := "ythhbkmpipmckkaa", sum := "a15ac629b757f9a05429652a6f6e4608979ddea79db5a27fb8f24ba859d13b3c", func := "loop.example/g01369/laws.FnExactYearsAllKind", spec := "fnExactYearsAllKind", inPlace := ["internal/bytealg.IndexByteString", "internal/bytealg.IndexString"], unfollowed := true, recurses := true, named := ["internal/bytealg.MaxLen"], apart := false, narrowed := true }
def FnExactYearsAllKindUptoSaid : Prop := fnExactYearsAllKindUptoRow.holds Try.pinned (OpenSpec.upto fnExactYearsAllKindSpec)

end Rows
end Go.Proofs.Ythhbkmpipmckkaa
