/-
  DERIVED. GIVEN WITH THE SEED: THE CARDS: each row of YtbdgeknaddaekaaDoorRows.lean that lists a variable, with what it lists TIED to the program's text (the seventh form; the later family's looks); each row that meets fmt, with fmt's text TOLD by the authors' own Lean function (tested against real Go, not proved from fmt's source: count such statements apart). THE CARD IS WHAT COUNTS. Prove the row's statement (the work); the ties are given (YtbdgeknaddaekaaDoorTie.lean); close each card by the builder's one call (the guide's Derived/Test/ToyasCard.lean, 'card_holds'). Laid BY PROGRAM, IN A SANDBOX (cutbox-door.mjs). By AI agents, Wed Nov 11 2026. No macro, syntax, notation, axiom, sorry.
-/
import Derived.Test.YtbdgeknaddaekaaDoorRows
import GoSem.ClaimSeven
namespace Go.Proofs.YtbdgeknaddaekaaDoor
namespace Rows

/-- THE TIED CARD OF 'laws.FnExactAgesText'. -/
def fnExactAgesTextCard : Claim7 := { stood := { row := fnExactAgesTextRow, standIns := [], harness := (true, "3efe97526d328c83701350f55aca5eef4c74b80eda089fbee5fddfa53ce10304"), looks := true }, kinds := [], alts := [], laidByText := true, laidKinds := [.data, .data, .data], laidTests := true, laidLooks := .later }
def FnExactAgesTextCardSaid : Prop := Claim7.holds Tryd.pinned (.plain (OpenSpec.ofChange fnExactAgesTextSpec)) fnExactAgesTextCard

/-- THE TIED CARD OF 'laws.FnExactParseAges'. -/
def fnExactParseAgesCard : Claim7 := { stood := { row := fnExactParseAgesRow, standIns := [], harness := (true, "3efe97526d328c83701350f55aca5eef4c74b80eda089fbee5fddfa53ce10304"), looks := true }, kinds := [], alts := [], laidByText := true, laidKinds := [.data, .data, .data, .data, .sentinel, .sentinel, .pinned], laidTests := true, laidLooks := .later }
def FnExactParseAgesCardSaid : Prop := Claim7.holds Tryd.pinned (.plain (OpenSpec.ofChange fnExactParseAgesSpec)) fnExactParseAgesCard

/-- THE SECOND FORM's CARD OF 'laws.FnExactAgesText'. -/
def fnExactAgesTextUptoCard : Claim7 := { stood := { row := fnExactAgesTextUptoRow, standIns := [], harness := (true, "3efe97526d328c83701350f55aca5eef4c74b80eda089fbee5fddfa53ce10304"), looks := true }, kinds := [], alts := [], laidByText := true, laidKinds := [.data, .data, .data], laidTests := true, laidLooks := .later }
def FnExactAgesTextUptoCardSaid : Prop := Claim7.holds Tryd.pinned (.plain (OpenSpec.upto fnExactAgesTextSpec)) fnExactAgesTextUptoCard

/-- THE SECOND FORM's CARD OF 'laws.FnExactParseAges'. -/
def fnExactParseAgesUptoCard : Claim7 := { stood := { row := fnExactParseAgesUptoRow, standIns := [], harness := (true, "3efe97526d328c83701350f55aca5eef4c74b80eda089fbee5fddfa53ce10304"), looks := true }, kinds := [], alts := [], laidByText := true, laidKinds := [.data, .data, .data, .data, .sentinel, .sentinel, .pinned], laidTests := true, laidLooks := .later }
def FnExactParseAgesUptoCardSaid : Prop := Claim7.holds Tryd.pinned (.plain (OpenSpec.upto fnExactParseAgesSpec)) fnExactParseAgesUptoCard
end Rows
end Go.Proofs.YtbdgeknaddaekaaDoor
